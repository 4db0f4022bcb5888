/- The document's Add of what is known. -/
import Derived.Test.YtgpejfkmdenonaaGreatQKnR
import Derived.Test.YtgpejfkmdenonaaGreatQKnS
import Derived.Test.YtgpejfkmdenonaaGreatQOpA
import Derived.Test.YtgpejfkmdenonaaGreatQKnO
namespace Go.Proofs.YtgpejfkmdenonaaGreat
open Go.RowKit Go.Sort Go.Lib
set_option maxRecDepth 100000
set_option maxHeartbeats 4000000 in
theorem rAdd_bad (base : Int) (rs ats : Array (Int × Int)) (A1 : Option Addr) (c1 : Nat) (A2 : Option Addr) (c2 : Nat) (lo hi : Int) (atts : Array (Int × Int)) (A3 : Option Addr) (c3 : Nat) (w : World) (h1 : RdK encR 2 w.heap.size w A1 rs) (h2 : RdK encA_I 2 w.heap.size w A2 ats) (h3 : RdK encA_I 2 w.heap.size w A3 atts) (hs : atts.size ≤ 1000000) (hbad : addB ⟨base, rs, ats⟩ lo hi atts = false) :
    Calls Tryz.prog 10 #[.agg #[.int .i64 base, .slice A1 rs.size c1, .slice A2 ats.size c2], .int .i64 lo, .int .i64 hi, .slice A3 atts.size c3] w fun e w' => e = .returned (.tuple #[.agg #[.int .i64 0, .slice none 0 0, .slice none 0 0], .int .i64 2]) ∧ Below w.heap.size w w' := by
  have HC : Hid (∀ W, Below w.heap.size w W → Calls Tryz.prog 13 #[.agg #[.int .i64 base, .slice A1 rs.size c1, .slice A2 ats.size c2]] W fun e w' => e = .returned (.int .i64 (chkE ⟨base, rs, ats⟩)) ∧ Below W.heap.size W w') := fun W hb => rChk16_let base rs ats A1 c1 A2 c2 W ((h1.below hb).mono hb.size) ((h2.below hb).mono hb.size)
  have HRi : Hid (∀ W, Below w.heap.size w W → Calls Tryz.prog 32 #[.slice A3 atts.size c3, .int .i64 lo, .int .i64 hi] W fun e w' => e = .returned (.bool (riseL hi lo atts.toList)) ∧ Below W.heap.size W w') := fun W hb => rRise_any A3 c3 atts lo hi W ((h3.below hb).mono hb.size) hs
  have HBd := Lib.hid hbad
  have q0 := chkE_ne ⟨base, rs, ats⟩
  clear h1 h2 h3 hbad
  generalize chkE ⟨base, rs, ats⟩ = ce at q0 HC
  have HT := Lib.hid (two_blk w (.cells #[.int .i64 base, .slice A1 rs.size c1, .slice A2 ats.size c2] 25) (.cells #[.int .i64 0, .slice none 0 0, .slice none 0 0] 25))
  cases hc : chkB ⟨base, rs, ats⟩
  · rw [hc] at q0
    clear hc
    go_enter Tryz.func10, Tryz.ntmps10
    go_wp2_with fail
    refine (HC.out _ (belAlloc (bel1 w _) _)).mono ?_
    rintro e w1 ⟨rfl, hb1⟩
    obtain ⟨⟨k0, k1, k2⟩, f0⟩ := blk3 (blk_bel HT.out.2 hb1)
    have HB1 := Lib.hid (belStep (belAlloc (bel1 w _) _) hb1)
    clear hb1
    go_wp2
    refine bodyPost_ret (v := .tuple #[.agg #[.int .i64 0, .slice none 0 0, .slice none 0 0], .int .i64 2]) (by simp [results, Tryz.results10, go_sem, k0, k1, k2]) rfl ⟨rfl, ?_⟩
    exact ((HB1.out.setCell (by simp) _).setCell (by simp) _).setCell (by simp) _
  · rw [hc] at q0
    have HQ : Hid (lo < 0 ∨ hi < lo ∨ 1000000 < hi ∨ riseL hi lo atts.toList = false) := by
      show _ ∨ _
      have h := HBd.out
      unfold addB at h
      rw [hc, Bool.true_and, Bool.and_eq_false_iff, decide_eq_false_iff_not] at h
      by_cases g1 : lo < 0
      · exact Or.inl g1
      · by_cases g2 : hi < lo
        · exact Or.inr (Or.inl g2)
        · by_cases g3 : 1000000 < hi
          · exact Or.inr (Or.inr (Or.inl g3))
          · exact Or.inr (Or.inr (Or.inr (by rcases h with h | h; exact absurd ⟨by omega, by omega, by omega⟩ h; exact h)))
    clear hc
    by_cases g1 : lo < 0
    · have d1 : decide (lo < 0) = true := by simpa using g1
      clear g1
      go_enter Tryz.func10, Tryz.ntmps10
      go_wp2_with fail
      refine (HC.out _ (belAlloc (bel1 w _) _)).mono ?_
      rintro e w1 ⟨rfl, hb1⟩
      obtain ⟨⟨k0, k1, k2⟩, f0⟩ := blk3 (blk_bel HT.out.2 hb1)
      have HB1 := Lib.hid (belStep (belAlloc (bel1 w _) _) hb1)
      clear hb1
      go_wp2
      refine bodyPost_ret (v := .tuple #[.agg #[.int .i64 0, .slice none 0 0, .slice none 0 0], .int .i64 2]) (by simp [results, Tryz.results10, go_sem, k0, k1, k2]) rfl ⟨rfl, ?_⟩
      exact ((HB1.out.setCell (by simp) _).setCell (by simp) _).setCell (by simp) _
    · have d1 : decide (lo < 0) = false := decide_eq_false g1
      by_cases g2 : hi < lo
      · have d2 : decide (hi < lo) = true := by simpa using g2
        clear g1 g2
        go_enter Tryz.func10, Tryz.ntmps10
        go_wp2_with fail
        refine (HC.out _ (belAlloc (bel1 w _) _)).mono ?_
        rintro e w1 ⟨rfl, hb1⟩
        obtain ⟨⟨k0, k1, k2⟩, f0⟩ := blk3 (blk_bel HT.out.2 hb1)
        have HB1 := Lib.hid (belStep (belAlloc (bel1 w _) _) hb1)
        clear hb1
        go_wp2
        refine bodyPost_ret (v := .tuple #[.agg #[.int .i64 0, .slice none 0 0, .slice none 0 0], .int .i64 2]) (by simp [results, Tryz.results10, go_sem, k0, k1, k2]) rfl ⟨rfl, ?_⟩
        exact ((HB1.out.setCell (by simp) _).setCell (by simp) _).setCell (by simp) _
      · have d2 : decide (hi < lo) = false := decide_eq_false g2
        by_cases g3 : 1000000 < hi
        · have d3 : decide (1000000 < hi) = true := by simpa using g3
          clear g1 g2 g3
          go_enter Tryz.func10, Tryz.ntmps10
          go_wp2_with fail
          refine (HC.out _ (belAlloc (bel1 w _) _)).mono ?_
          rintro e w1 ⟨rfl, hb1⟩
          obtain ⟨⟨k0, k1, k2⟩, f0⟩ := blk3 (blk_bel HT.out.2 hb1)
          have HB1 := Lib.hid (belStep (belAlloc (bel1 w _) _) hb1)
          clear hb1
          go_wp2
          refine bodyPost_ret (v := .tuple #[.agg #[.int .i64 0, .slice none 0 0, .slice none 0 0], .int .i64 2]) (by simp [results, Tryz.results10, go_sem, k0, k1, k2]) rfl ⟨rfl, ?_⟩
          exact ((HB1.out.setCell (by simp) _).setCell (by simp) _).setCell (by simp) _
        · have d3 : decide (1000000 < hi) = false := decide_eq_false g3
          have g4 : riseL hi lo atts.toList = false := by
            rcases HQ.out with g | g | g | g
            · exact absurd g g1
            · exact absurd g g2
            · exact absurd g g3
            · exact g
          rw [g4] at HRi
          clear g1 g2 g3 g4 HQ
          go_enter Tryz.func10, Tryz.ntmps10
          go_wp2_with fail
          refine (HC.out _ (belAlloc (bel1 w _) _)).mono ?_
          rintro e w1 ⟨rfl, hb1⟩
          have HT1 := Lib.hid (blk_bel HT.out.2 hb1)
          have HB1 := Lib.hid (belStep (belAlloc (bel1 w _) _) hb1)
          clear hb1
          go_wp2_with fail
          refine (HRi.out _ HB1.out).mono ?_
          rintro e w2 ⟨rfl, hb2⟩
          obtain ⟨⟨k0, k1, k2⟩, f0⟩ := blk3 (blk_bel HT1.out hb2)
          have HB2 := Lib.hid (belStep HB1.out hb2)
          clear hb2
          go_wp2
          refine bodyPost_ret (v := .tuple #[.agg #[.int .i64 0, .slice none 0 0, .slice none 0 0], .int .i64 2]) (by simp [results, Tryz.results10, go_sem, k0, k1, k2]) rfl ⟨rfl, ?_⟩
          exact ((HB2.out.setCell (by simp) _).setCell (by simp) _).setCell (by simp) _
set_option maxHeartbeats 1000000 in
/-- Two rows of other types are two blocks. -/
theorem own_apart {w : World} {B B' k k' n n' : Nat} {e e' : TypeId} {v v' : Value} {xs xs' : List Value} (h : w.ownsRow B e k v n xs) (h' : w.ownsRow B' e' k' v' n' xs') (he : e ≠ e') : v.ownBlock = none ∨ v.ownBlock ≠ v'.ownBlock := by
  obtain ⟨_, ⟨h1, _⟩ | ⟨g, cap, cur, h1, _, h2, _⟩⟩ := h
  · left
    rw [h1]
    rfl
  · obtain ⟨_, ⟨h3, _⟩ | ⟨g', cap', cur', h3, _, h4, _⟩⟩ := h'
    · right
      rw [h1, h3]
      simp [Value.ownBlock]
    · right
      rw [h1, h3]
      intro heq
      simp [Value.ownBlock] at heq
      subst heq
      rw [h2] at h4
      simp at h4
      exact he h4.2
/-- The commands at times that are new. -/
def frK (k : KN) (a : Int × Int) : Bool := !hasK k a.1 && !atK k.ats a.1
def alK (k : KN) (atts : Array (Int × Int)) (j : Nat) : Array (Int × Int) := k.ats ++ ((atts.toList.take j).filter (frK k)).toArray
theorem alK_succ {k : KN} {atts : Array (Int × Int)} {j : Nat} (hj : j < atts.size) : alK k atts (j + 1) = if frK k atts[j]! then (alK k atts j).push atts[j]! else alK k atts j := by
  unfold alK
  rw [take_snoc_U hj, List.filter_append]
  cases h : frK k atts[j]! <;> simp [h]
theorem alK_size (k : KN) (atts : Array (Int × Int)) (j : Nat) : (alK k atts j).size ≤ k.ats.size + atts.size := by
  unfold alK
  have h1 := List.length_filter_le (frK k) (atts.toList.take j)
  have h2 := List.length_take_le j atts.toList
  simp at h1 h2 ⊢
  omega
theorem alK_fin {k : KN} {lo hi : Int} {atts : Array (Int × Int)} (h : AddA k lo hi atts) : srtA (alK k atts atts.size) = allK k atts := by
  unfold alK allK mrgK freshK
  rw [List.take_of_length_le (by simp)]
  congr 1
  simp only [List.filter_filter]
  have : atts.toList.filter (frK k) = atts.toList.filter fun a => (!(timesL k.ats.toList).contains a.1) && !(decide (a.1 ≤ k.base) || inR k.rs a.1) := by
    refine List.filter_congr fun a ha => ?_
    have h1 := ((riseL_iff _ _ _).1 h.up).2 a ha
    have h0 := h.lo0
    have e : hasK k a.1 = (decide (a.1 ≤ k.base) || inR k.rs a.1) := by
      rw [Bool.eq_iff_iff, hasK_iff h.chk, Bool.or_eq_true, decide_eq_true_eq]
      constructor
      · rintro (⟨_, g⟩ | g)
        · exact Or.inl g
        · exact Or.inr g
      · rintro (g | g)
        · exact Or.inl ⟨by omega, g⟩
        · exact Or.inr g
    unfold frK atK
    rw [e, Bool.and_comm]
  rw [this]
  simp
def dblA (l : List (Int × Int)) : Array (Int × Int) := (l.map fun a => (a.1, a.1)).toArray
theorem dblA_times (l : List (Int × Int)) : (dblA l).toList.map (·.1) = timesL l := by
  show (l.map _).map _ = _
  rw [List.map_map]
  rfl
theorem dblA_succ {d : Array (Int × Int)} {j : Nat} (hj : j < d.size) : dblA (d.toList.take (j + 1)) = dblA (d.toList.take j) ++ #[(d[j]!.1, d[j]!.1)] := by
  rw [take_snoc_U hj]
  simp [dblA]
/-- What is told, without the first j of the holes. -/
def tlK (base lo hi : Int) (hs : Array (Int × Int)) (j : Nat) : Array (Int × Int) := (woN ((hs.toList.take j).map (·.1)) [(max lo base + 1, hi)]).toArray
theorem tlK_zero (base lo hi : Int) (hs : Array (Int × Int)) : tlK base lo hi hs 0 = #[(max lo base + 1, hi)] := by simp [tlK, woN]
theorem tlK_succ (base lo hi : Int) {hs : Array (Int × Int)} {j : Nat} (hj : j < hs.size) : tlK base lo hi hs (j + 1) = (woL hs[j]!.1 (tlK base lo hi hs j).toList).toArray := by
  unfold tlK
  rw [take_snoc_U hj, List.map_append, List.map_singleton, woN_snoc]
theorem tlK_size (base lo hi : Int) (hs : Array (Int × Int)) (j : Nat) : (tlK base lo hi hs j).size ≤ j + 1 := by
  have := (woN_ok ((hs.toList.take j).map (·.1)) (l := [(max lo base + 1, hi)]) (by simp)).2.1
  unfold tlK
  simp at this ⊢
  omega
theorem tlK_fin {k : KN} {lo hi : Int} {atts hs : Array (Int × Int)} (h : hs.toList.map (·.1) = holesK k atts) : tlK k.base lo hi hs hs.size = toldK k lo hi (holesK k atts) := by
  unfold tlK toldK
  rw [List.take_of_length_le (by simp), h]
/-- The document's sort: its row is a new block. -/
theorem rSort_own (A : Option Addr) (c : Nat) (d : Array (Int × Int)) (w : World) (q : Nat) (h : RdK encA_I 2 w.heap.size w A d) (hd : d.size ≤ 1000000) (hq : q < w.heap.size) :
    Calls Tryz.prog 37 #[.slice A d.size c] w fun e w' => ∃ A' c', e = .returned (.slice A' d.size c') ∧ RdK encA_I 2 w'.heap.size w' A' (srtA d) ∧ (A' = none → c' = 0) ∧ (∀ g off, A' = some ⟨g, off, none⟩ → g ≠ q) ∧ Below w.heap.size w w' := by
  refine (rSort_any A c d w h hd).mono ?_
  rintro e w' ⟨v, rfl, ho, hb⟩
  have hs := srtA_size d
  rw [← hs] at ho
  have hl : ∀ g, v.ownBlock = some g → g ≠ q := fun g e => by
    have := (ho.lt g e).1
    omega
  obtain ⟨A', c', rfl, hr, hn⟩ := rdK_of_owns (enc := encA_I) ho
  exact ⟨A', c', by rw [hs], hr, hn, fun g off e => hl g (by rw [e]; rfl), hb⟩
theorem one2N (w1 : World) (x : Int × Int) (e : TypeId) : RdK encA_I 2 (w1.heap.size + 1) (w1.alloc (.cells #[.int .i64 x.1, .int .i64 x.2] e)) (some ⟨w1.heap.size, 0, none⟩) #[x] := one2 (cell_new w1 _ _ 0) (cell_new w1 _ _ 1)
attribute [local go_sem ↓] Go.wp_at_zero Go.wp_at_succ
set_option maxHeartbeats 16000000 in
theorem rAdd_ok (base : Int) (rs ats : Array (Int × Int)) (A1 : Option Addr) (c1 : Nat) (A2 : Option Addr) (c2 : Nat) (lo hi : Int) (atts : Array (Int × Int)) (A3 : Option Addr) (c3 : Nat) (w : World) (h1 : RdK encR 2 w.heap.size w A1 rs) (h2 : RdK encA_I 2 w.heap.size w A2 ats) (h3 : RdK encA_I 2 w.heap.size w A3 atts) (m1 : A1 = none → c1 = 0) (m2 : A2 = none → c2 = 0)
    (hA : AddA ⟨base, rs, ats⟩ lo hi atts) (s1 : rs.size ≤ 500) (s2 : ats.size ≤ 250) (s3 : atts.size ≤ 150) :
    Calls Tryz.prog 10 #[.agg #[.int .i64 base, .slice A1 rs.size c1, .slice A2 ats.size c2], .int .i64 lo, .int .i64 hi, .slice A3 atts.size c3] w fun e w' => ∃ v r, e = .returned (.tuple #[v, .int .i64 0]) ∧ KnV w' v r ∧ AddR ⟨base, rs, ats⟩ lo hi atts r ∧ Below w.heap.size w w' := by
  obtain ⟨i0, hi0, hz0, hz1, hz2⟩ := info_parts range_info
  obtain ⟨j0, hj0, jz0, jz1, jz2⟩ := info_parts att_info_I
  have HC : Hid (∀ W, Below w.heap.size w W → Calls Tryz.prog 13 #[.agg #[.int .i64 base, .slice A1 rs.size c1, .slice A2 ats.size c2]] W fun e w' => e = .returned (.int .i64 0) ∧ Below W.heap.size W w') := fun W hb => by
    have := rChk16_let base rs ats A1 c1 A2 c2 W ((h1.below hb).mono hb.size) ((h2.below hb).mono hb.size)
    unfold chkE at this
    rwa [if_pos (chk_iff.2 hA.chk)] at this
  have HRi : Hid (∀ W, Below w.heap.size w W → Calls Tryz.prog 32 #[.slice A3 atts.size c3, .int .i64 lo, .int .i64 hi] W fun e w' => e = .returned (.bool true) ∧ Below W.heap.size W w') := fun W hb => by
    have := rRise_any A3 c3 atts lo hi W ((h3.below hb).mono hb.size) (by omega)
    rwa [hA.up] at this
  have HKV : Hid (KnV w (.agg #[.int .i64 base, .slice A1 rs.size c1, .slice A2 ats.size c2]) ⟨base, rs, ats⟩) := ⟨A1, c1, A2, c2, rfl, h1, h2, m1, m2⟩
  have HHas : Hid (∀ t W, Below w.heap.size w W → Calls Tryz.prog 15 #[.agg #[.int .i64 base, .slice A1 rs.size c1, .slice A2 ats.size c2], .int .i64 t] W fun e w' => e = .returned (.bool (hasK ⟨base, rs, ats⟩ t)) ∧ Below W.heap.size W w') := fun t W hb => rHas16_any _ ⟨base, rs, ats⟩ t W (HKV.out.below hb)
  have HAt : Hid (∀ t W, Below w.heap.size w W → Calls Tryz.prog 33 #[.slice A2 ats.size c2, .int .i64 t] W fun e w' => e = .returned (.bool (atK ats t)) ∧ W = w') := fun t W hb => at_any A2 c2 ats t _ W (h2.below hb) (by omega)
  have HT := Lib.hid (two_blk w (.cells #[.int .i64 base, .slice A1 rs.size c1, .slice A2 ats.size c2] 25) (.cells #[.int .i64 0, .slice none 0 0, .slice none 0 0] 25))
  have HR1 := Lib.hid h1
  have HR2 := Lib.hid h2
  have HR3 := Lib.hid h3
  have HA := Lib.hid hA
  have HM1 := Lib.hid m1
  have HM2 := Lib.hid m2
  have b0 := hA.chk.b0
  have b1 := hA.chk.b1
  have l0 := hA.lo0
  have l1 := hA.le
  have l2 := hA.hi1
  simp only at b0 b1
  have d1 : decide (lo < 0) = false := decide_eq_false (by omega)
  have d2 : decide (hi < lo) = false := decide_eq_false (by omega)
  have d3 : decide (1000000 < hi) = false := decide_eq_false (by omega)
  have hwm : IntKind.i64.wrap (max lo base + 1) = max lo base + 1 := by rw [IntKind.wrap_i64]; omega
  clear h1 h2 h3 m1 m2 hA
  go_enter Tryz.func10, Tryz.ntmps10
  go_wp2_with fail
  refine (HC.out _ (belAlloc (bel1 w _) _)).mono ?_
  rintro e w1 ⟨rfl, hb1⟩
  have HB1 := Lib.hid (belStep (belAlloc (bel1 w _) _) hb1)
  have HRR := Lib.hid (HRi.out w1 HB1.out)
  have HK1 := Lib.hid (blk_bel HT.out.1 hb1)
  have HG1 := Lib.hid (blk_bel HT.out.2 hb1)
  clear hb1 HC HRi HT
  go_wp2_with fail
  refine HRR.out.mono ?_
  rintro e w2 ⟨rfl, hb2⟩
  have HB2 := Lib.hid (belStep HB1.out hb2)
  have HK2 := Lib.hid (blk_bel HK1.out hb2)
  have HG2 := Lib.hid (blk_bel HG1.out hb2)
  have HL2 : Hid (w.heap.size + 1 < w2.heap.size) := blk_lt HG2.out
  obtain ⟨⟨k0, k1, k2⟩, _⟩ := blk3 HK2.out
  have hkl := blk_lt HK2.out
  have HE0 := Lib.hid (empty_ownsK w2 50 encA_I 2)
  have r2 : RdK encA_I 2 w2.heap.size w2 A2 ats := (HR2.out.below HB2.out).mono HB2.out.size
  clear hb2 HRR HK1 HG1
  go_wp2_with (at_builtin; refine append_rdK encA_1_I encA_len_I (by decide) rfl _ _ 23 rfl w2.heap.size 50 j0 (.agg #[.int .i64 0, .int .i64 0]) 16 Tryz.underlying23 hj0 jz0 jz1 jz2 rfl _ #[] rfl HE0.out w2.heap.size A2 c2 ats rfl (r2.alloc (Nat.le_refl _) _) HM2.out (by simp; omega) (by decide) (by simp) ?_; intro v1 w3 hown1 hg1 _; have hB3 : Below w2.heap.size w2 w3 := (bel1 w2 _).grown hg1 (by simp) (fun k hk => (HE0.out.lt k hk).1))
  have HAL0 : Hid (w3.ownsRow w2.heap.size 50 2 v1 (alK ⟨base, rs, ats⟩ atts 0).size (flatK encA_I 2 (alK ⟨base, rs, ats⟩ atts 0)).toList) := by
    have e : #[] ++ ats = alK ⟨base, rs, ats⟩ atts 0 := by simp [alK]
    rw [e] at hown1
    exact hown1
  have HB3 := Lib.hid hB3
  clear hown1 hg1 hB3 HE0 r2 k0 k1 k2 hkl
  go_loopw [10, 11, 12] (fun va vh iv wr => ∃ j : Nat, iv = .int .i64 (j : Int) ∧ j ≤ atts.size ∧ wr.ownsRow w2.heap.size 50 2 va (alK ⟨base, rs, ats⟩ atts j).size (flatK encA_I 2 (alK ⟨base, rs, ats⟩ atts j)).toList ∧ wr.ownsRow w2.heap.size 47 2 vh (dblA (atts.toList.take j)).size (flatK encA_I 2 (dblA (atts.toList.take j))).toList ∧ Below w2.heap.size w2 wr) (fun _ _ iv _ => atts.size - (intOf iv).toNat)
  case atStart => exact ⟨0, rfl, Nat.zero_le _, HAL0.out, nil_ownsK _ _ _ _ _, HB3.out⟩
  case round =>
    obtain ⟨j, rfl, hj, hal, hho, hB⟩ := hrel
    have hza := alK_size ⟨base, rs, ats⟩ atts j
    have hzh : (dblA (atts.toList.take j)).size ≤ j := by simp [dblA]; omega
    simp only at hza
    have HB := Lib.hid hB
    clear hB
    by_cases hlt : j < atts.size
    · have jz : (j : Int) < (atts.size : Int) := by omega
      obtain ⟨b, off, rfl, hbl, f⟩ := (HR3.out.below (belStep HB2.out HB.out)).at_ hlt
      have e0 := f 0 (by omega)
      have e1 := f 1 (by omega)
      have hb2w : b < w2.heap.size := Nat.lt_of_lt_of_le hbl HB2.out.size
      have hbw : b < wr.heap.size := Nat.lt_of_lt_of_le hb2w HB.out.size
      have HSA := Lib.hid (alK_succ (k := ⟨base, rs, ats⟩) hlt)
      have HSH := Lib.hid (dblA_succ hlt)
      have hcall : Hid (frK ⟨base, rs, ats⟩ atts[j]! = (!hasK ⟨base, rs, ats⟩ atts[j]!.1 && !atK ats atts[j]!.1)) := rfl
      obtain ⟨x, hx⟩ : ∃ x, atts[j]! = x := ⟨_, rfl⟩
      rw [hx] at e0 e1 HSA HSH hcall
      simp only [Nat.add_zero, encA_I, List.getElem!_cons_zero, List.getElem!_cons_succ] at e0 e1
      obtain ⟨al, hale⟩ : ∃ al, alK ⟨base, rs, ats⟩ atts j = al := ⟨_, rfl⟩
      obtain ⟨ho, hhoe⟩ : ∃ ho, dblA (atts.toList.take j) = ho := ⟨_, rfl⟩
      rw [hale] at hal HSA hza
      rw [hhoe] at hho HSH hzh
      have HAl := Lib.hid hal
      have HHo := Lib.hid hho
      clear f hx hal hho hale hhoe
      obtain ⟨⟨k0, k1, k2⟩, _⟩ := blk3 (blk_bel HK2.out HB.out)
      have hkl : w.heap.size < wr.heap.size := blk_lt (blk_bel HK2.out HB.out)
      have p0 := fun p : ExtW wr => p.cell (a := ⟨w.heap.size, 0, none⟩) hkl k0
      have p1 := fun p : ExtW wr => p.cell (a := ⟨w.heap.size, 1, none⟩) hkl k1
      have p2 := fun p : ExtW wr => p.cell (a := ⟨w.heap.size, 2, none⟩) hkl k2
      have p3 := fun p : ExtW wr => p.cell (a := ⟨b, off + j * 2, none⟩) hbw e0
      have hh1 : ∀ p : ExtW wr, Calls Tryz.prog 15 #[.agg #[.int .i64 base, .slice A1 rs.size c1, .slice A2 ats.size c2], .int .i64 x.1] p.to fun e w' => e = .returned (.bool (hasK ⟨base, rs, ats⟩ x.1)) ∧ Below p.to.heap.size p.to w' := fun p => HHas.out x.1 p.to (belStep HB2.out (belStep HB.out p.h))
      have hh2 : ∀ p : ExtW wr, Calls Tryz.prog 33 #[.slice A2 ats.size c2, .int .i64 x.1] p.to fun e w' => e = .returned (.bool (atK ats x.1)) ∧ p.to = w' := fun p => HAt.out x.1 p.to (belStep HB2.out (belStep HB.out p.h))
      generalize hasK ⟨base, rs, ats⟩ x.1 = q1 at hh1 hcall
      generalize atK ats x.1 = q2 at hh2 hcall
      have H1 := Lib.hid hh1
      have H2 := Lib.hid hh2
      have HXC : Hid (b < w2.heap.size ∧ w2.cell? ⟨b, off + j * 2, none⟩ = some (.int .i64 x.1) ∧ w2.cell? ⟨b, off + j * 2 + 1, none⟩ = some (.int .i64 x.2)) := ⟨hb2w, (HB.out.cell (p := ⟨b, off + j * 2, none⟩) hb2w).symm.trans e0, (HB.out.cell (p := ⟨b, off + j * 2 + 1, none⟩) hb2w).symm.trans e1⟩
      have KS : Hid (∀ W, Below w2.heap.size w2 W → Below w2.heap.size w2 W ∧ W.cell? ⟨b, off + j * 2, none⟩ = some (.int .i64 x.1)) := fun W hb => ⟨hb, (hb.cell (p := ⟨b, off + j * 2, none⟩) HXC.out.1).trans HXC.out.2.1⟩
      clear hh1 hh2 k0 k1 k2 e0 e1 hbw hkl hb2w
      cases q1
      · cases q2
        · have hfr : frK ⟨base, rs, ats⟩ x = true := hcall.out
          rw [hfr, if_pos rfl] at HSA
          clear hfr hcall
          go_wp2_with fail
          refine wp_region_ext (by kernel_rfl) (by kernel_rfl) ?_
          repeat (first | go_big_quiet_step ((first | (go_at_call 15; exact Calls.ext_of (H1.out _)) | (go_at_call 33; exact Calls.ext_same (H2.out _)))) | quiet_step ((first | (go_at_call 15; exact Calls.ext_of (H1.out _)) | (go_at_call 33; exact Calls.ext_same (H2.out _)))))
          refine wpQuiet_nil ?_
          intro wq hw'
          obtain ⟨⟨W, hbW⟩, hw''⟩ := hw'
          have hw3 : wq = W := hw''
          subst hw3
          have HAq : Hid (wq.ownsRow w2.heap.size 50 2 u10 al.size (flatK encA_I 2 al).toList) := own_heap HAl.out (fun g _ hl => hbW.block g hl)
          have HHq : Hid (wq.ownsRow w2.heap.size 47 2 u11 ho.size (flatK encA_I 2 ho).toList) := own_heap HHo.out (fun g _ hl => hbW.block g hl)
          have HBQ := Lib.hid (belStep HB.out hbW)
          clear hbW hw'' p0 p1 p2 p3
          have hzq := HBQ.out.size
          have x0 := (HBQ.out.cell (p := ⟨b, off + j * 2, none⟩) HXC.out.1).trans HXC.out.2.1
          have x1 := (HBQ.out.cell (p := ⟨b, off + j * 2 + 1, none⟩) HXC.out.1).trans HXC.out.2.2
          go_wp2_with (at_builtin; refine wpList_append_own _ rfl _ _ 23 rfl w2.heap.size 50 j0 (.agg #[.int .i64 0, .int .i64 0]) 2 16 Tryz.underlying23 hj0 jz0 jz1 jz2 rfl (by decide) _ _ _ rfl (HAq.out.alloc _) ⟨wq.heap.size, 0, none⟩ 1 1 [.int .i64 x.1, .int .i64 x.2] rfl rfl (two_new_R wq _ _ _) (by simp [Value.oneCell']) (by unfold maxLen; omega) (by omega) (by simp; omega) ?_; intro v4 w4 hown4 hgrow4 _; have hho4 := (HHq.out.alloc _).kept hgrow4 (own_apart HHq.out HAq.out (by decide)); have hb4 := own_app1 HBQ.out hzq HAq.out hgrow4; have HHo4 := Lib.hid hho4; have HB4 := Lib.hid hb4; have HAl4 : Hid (w4.ownsRow w2.heap.size 50 2 v4 (al.push x).size (flatK encA_I 2 (al.push x)).toList) := (by show w4.ownsRow _ _ _ _ _ _; rw [Array.size_push, flatK_push encA_len_I]; exact hown4); have y0 := (hb4.cell (p := ⟨b, off + j * 2, none⟩) HXC.out.1).trans HXC.out.2.1; clear hown4 hgrow4 hho4 hb4 x0 x1)
          have hbc : Below w2.heap.size w2 w4 := HB4.out
          go_wp2_with fail
          go_region_held3 (fun w' => Below w2.heap.size w2 w' ∧ w'.cell? ⟨b, off + j * 2, none⟩ = some (.int .i64 x.1)) (first | assumption | exact KS.out _ (by assumption) | exact KS.out _ (And.left (by assumption)) | exact KS.out _ (Below.drew (by assumption)) | exact KS.out _ (Below.drew (And.left (by assumption))) | exact KS.out _ (belAlloc (by assumption) _) | exact KS.out _ (belAlloc (And.left (by assumption)) _) | exact KS.out _ (belAlloc (by assumption) _).drew | exact KS.out _ (belAlloc (And.left (by assumption)) _).drew | exact KS.out _ (belAlloc (Below.drew (by assumption)) _) | exact KS.out _ (belAlloc (Below.drew (And.left (by assumption))) _))
            ((refine step_append_R encA_1_I encA_len_I (by decide) (by rfl) _ _ _ (by rfl) w2 47 i0 _ 16 Tryz.underlying22 hi0 hz0 hz1 hz2 rfl _ ho (by rfl) (by first | exact HHo4.out.alloc _ | exact (HHo4.out.alloc _).drew | exact World.ownsRow.alloc HHo4.out.drew _) _ _ _ _ #[(x.1, x.1)] (by rfl) (by rfl) (by first | exact one2A _ (x.1, x.1) _ | exact one2N _ (x.1, x.1) _) (fun h => by cases h) (by first | (simp; done) | (simp; omega)) (by decide) (by first | assumption | exact And.left (by assumption)) ?_; intro v3 w3 hown3 hgrow3 hBw3; have hal3 := World.ownsRow.kept (by first | exact HAl4.out.alloc _ | exact (HAl4.out.alloc _).drew | exact World.ownsRow.alloc HAl4.out.drew _) hgrow3 (own_apart HAl4.out HHo4.out (by decide))))
          all_goals
            go_wp2
            exact ⟨⟨j + 1, by go_num, by omega, (by rw [HSA.out]; exact hal3), (by rw [HSH.out]; exact hown3), hBw3⟩, by simp [intOf]; omega⟩
        · have hfr : frK ⟨base, rs, ats⟩ x = false := hcall.out
          rw [hfr, if_neg (by decide)] at HSA
          clear hfr hcall
          go_wp2_with fail
          refine wp_region_ext (by kernel_rfl) (by kernel_rfl) ?_
          repeat (first | go_big_quiet_step ((first | (go_at_call 15; exact Calls.ext_of (H1.out _)) | (go_at_call 33; exact Calls.ext_same (H2.out _)))) | quiet_step ((first | (go_at_call 15; exact Calls.ext_of (H1.out _)) | (go_at_call 33; exact Calls.ext_same (H2.out _)))))
          refine wpQuiet_nil ?_
          intro wq hw'
          obtain ⟨⟨W, hbW⟩, hw''⟩ := hw'
          have hw3 : wq = W := hw''
          subst hw3
          have HAq : Hid (wq.ownsRow w2.heap.size 50 2 u10 al.size (flatK encA_I 2 al).toList) := own_heap HAl.out (fun g _ hl => hbW.block g hl)
          have HHq : Hid (wq.ownsRow w2.heap.size 47 2 u11 ho.size (flatK encA_I 2 ho).toList) := own_heap HHo.out (fun g _ hl => hbW.block g hl)
          have HBQ := Lib.hid (belStep HB.out hbW)
          clear hbW hw'' p0 p1 p2 p3
          have hzq := HBQ.out.size
          have x0 := (HBQ.out.cell (p := ⟨b, off + j * 2, none⟩) HXC.out.1).trans HXC.out.2.1
          have x1 := (HBQ.out.cell (p := ⟨b, off + j * 2 + 1, none⟩) HXC.out.1).trans HXC.out.2.2
          have hbc : Below w2.heap.size w2 wq := HBQ.out
          go_wp2_with fail
          go_region_held3 (fun w' => Below w2.heap.size w2 w' ∧ w'.cell? ⟨b, off + j * 2, none⟩ = some (.int .i64 x.1)) (first | assumption | exact KS.out _ (by assumption) | exact KS.out _ (And.left (by assumption)) | exact KS.out _ (Below.drew (by assumption)) | exact KS.out _ (Below.drew (And.left (by assumption))) | exact KS.out _ (belAlloc (by assumption) _) | exact KS.out _ (belAlloc (And.left (by assumption)) _) | exact KS.out _ (belAlloc (by assumption) _).drew | exact KS.out _ (belAlloc (And.left (by assumption)) _).drew | exact KS.out _ (belAlloc (Below.drew (by assumption)) _) | exact KS.out _ (belAlloc (Below.drew (And.left (by assumption))) _))
            ((refine step_append_R encA_1_I encA_len_I (by decide) (by rfl) _ _ _ (by rfl) w2 47 i0 _ 16 Tryz.underlying22 hi0 hz0 hz1 hz2 rfl _ ho (by rfl) (by first | exact HHq.out.alloc _ | exact (HHq.out.alloc _).drew | exact World.ownsRow.alloc HHq.out.drew _) _ _ _ _ #[(x.1, x.1)] (by rfl) (by rfl) (by first | exact one2A _ (x.1, x.1) _ | exact one2N _ (x.1, x.1) _) (fun h => by cases h) (by first | (simp; done) | (simp; omega)) (by decide) (by first | assumption | exact And.left (by assumption)) ?_; intro v3 w3 hown3 hgrow3 hBw3; have hal3 := World.ownsRow.kept (by first | exact HAq.out.alloc _ | exact (HAq.out.alloc _).drew | exact World.ownsRow.alloc HAq.out.drew _) hgrow3 (own_apart HAq.out HHq.out (by decide))))
          all_goals
            go_wp2
            exact ⟨⟨j + 1, by go_num, by omega, (by rw [HSA.out]; exact hal3), (by rw [HSH.out]; exact hown3), hBw3⟩, by simp [intOf]; omega⟩
      · have hfr : frK ⟨base, rs, ats⟩ x = false := hcall.out
        rw [hfr, if_neg (by decide)] at HSA
        clear hfr hcall
        go_wp2_with fail
        refine wp_region_ext (by kernel_rfl) (by kernel_rfl) ?_
        repeat (first | go_big_quiet_step ((first | (go_at_call 15; exact Calls.ext_of (H1.out _)) | (go_at_call 33; exact Calls.ext_same (H2.out _)))) | quiet_step ((first | (go_at_call 15; exact Calls.ext_of (H1.out _)) | (go_at_call 33; exact Calls.ext_same (H2.out _)))))
        refine wpQuiet_nil ?_
        intro wq hw'
        obtain ⟨⟨W, hbW⟩, hw''⟩ := hw'
        have hw3 : wq = W := hw''
        subst hw3
        have HAq : Hid (wq.ownsRow w2.heap.size 50 2 u10 al.size (flatK encA_I 2 al).toList) := own_heap HAl.out (fun g _ hl => hbW.block g hl)
        have HHq : Hid (wq.ownsRow w2.heap.size 47 2 u11 ho.size (flatK encA_I 2 ho).toList) := own_heap HHo.out (fun g _ hl => hbW.block g hl)
        have HBQ := Lib.hid (belStep HB.out hbW)
        clear hbW hw'' p0 p1 p2 p3
        have hzq := HBQ.out.size
        have x0 := (HBQ.out.cell (p := ⟨b, off + j * 2, none⟩) HXC.out.1).trans HXC.out.2.1
        have x1 := (HBQ.out.cell (p := ⟨b, off + j * 2 + 1, none⟩) HXC.out.1).trans HXC.out.2.2
        have hbc : Below w2.heap.size w2 wq := HBQ.out
        go_wp2_with fail
        go_region_held3 (fun w' => Below w2.heap.size w2 w' ∧ w'.cell? ⟨b, off + j * 2, none⟩ = some (.int .i64 x.1)) (first | assumption | exact KS.out _ (by assumption) | exact KS.out _ (And.left (by assumption)) | exact KS.out _ (Below.drew (by assumption)) | exact KS.out _ (Below.drew (And.left (by assumption))) | exact KS.out _ (belAlloc (by assumption) _) | exact KS.out _ (belAlloc (And.left (by assumption)) _) | exact KS.out _ (belAlloc (by assumption) _).drew | exact KS.out _ (belAlloc (And.left (by assumption)) _).drew | exact KS.out _ (belAlloc (Below.drew (by assumption)) _) | exact KS.out _ (belAlloc (Below.drew (And.left (by assumption))) _))
          ((refine step_append_R encA_1_I encA_len_I (by decide) (by rfl) _ _ _ (by rfl) w2 47 i0 _ 16 Tryz.underlying22 hi0 hz0 hz1 hz2 rfl _ ho (by rfl) (by first | exact HHq.out.alloc _ | exact (HHq.out.alloc _).drew | exact World.ownsRow.alloc HHq.out.drew _) _ _ _ _ #[(x.1, x.1)] (by rfl) (by rfl) (by first | exact one2A _ (x.1, x.1) _ | exact one2N _ (x.1, x.1) _) (fun h => by cases h) (by first | (simp; done) | (simp; omega)) (by decide) (by first | assumption | exact And.left (by assumption)) ?_; intro v3 w3 hown3 hgrow3 hBw3; have hal3 := World.ownsRow.kept (by first | exact HAq.out.alloc _ | exact (HAq.out.alloc _).drew | exact World.ownsRow.alloc HAq.out.drew _) hgrow3 (own_apart HAq.out HHq.out (by decide))))
        all_goals
          go_wp2
          exact ⟨⟨j + 1, by go_num, by omega, (by rw [HSA.out]; exact hal3), (by rw [HSH.out]; exact hown3), hBw3⟩, by simp [intOf]; omega⟩
    · obtain rfl : j = atts.size := by omega
      have hlt' : ¬ (atts.size : Int) < (atts.size : Int) := by omega
      have HSo := Lib.hid (alK_fin HA.out)
      obtain ⟨al, hale⟩ : ∃ al, alK ⟨base, rs, ats⟩ atts atts.size = al := ⟨_, rfl⟩
      rw [hale] at hal HSo hza
      rw [List.take_of_length_le (by simp)] at hho
      have hhz : (dblA atts.toList).size = atts.size := by simp [dblA]
      clear hale hzh hlt
      have HAl := Lib.hid hal
      have HHo0 : Hid (wr.ownsRow w2.heap.size 47 2 u11 (dblA atts.toList ++ dblA (ats.toList.take 0)).size (flatK encA_I 2 (dblA atts.toList ++ dblA (ats.toList.take 0))).toList) := by
        have e : dblA atts.toList ++ dblA (ats.toList.take 0) = dblA atts.toList := by simp [dblA]
        show wr.ownsRow _ _ _ _ _ _
        rw [e]
        exact hho
      obtain ⟨va, hva⟩ : ∃ va, u10 = va := ⟨_, rfl⟩
      rw [hva] at HAl ⊢
      clear hal hho hva
      go_wp2
      go_loopw [11, 13] (fun vh iv wr => ∃ j : Nat, iv = .int .i64 (j : Int) ∧ j ≤ ats.size ∧ wr.ownsRow w2.heap.size 50 2 va al.size (flatK encA_I 2 al).toList ∧ wr.ownsRow w2.heap.size 47 2 vh (dblA atts.toList ++ dblA (ats.toList.take j)).size (flatK encA_I 2 (dblA atts.toList ++ dblA (ats.toList.take j))).toList ∧ Below w2.heap.size w2 wr) (fun _ iv _ => ats.size - (intOf iv).toNat)
      case atStart => exact ⟨0, rfl, Nat.zero_le _, HAl.out, HHo0.out, HB.out⟩
      case round =>
        clear HAl HHo0 HB
        obtain ⟨j, rfl, hj, hal, hho, hB⟩ := hrel
        have hzh : (dblA atts.toList ++ dblA (ats.toList.take j)).size ≤ atts.size + j := by simp [dblA]; omega
        have HB := Lib.hid hB
        have HAl := Lib.hid hal
        clear hB hal
        obtain ⟨⟨k0, k1, k2⟩, _⟩ := blk3 (blk_bel HK2.out HB.out)
        have hkl : w.heap.size < wr.heap.size := blk_lt (blk_bel HK2.out HB.out)
        by_cases hlt : j < ats.size
        · have jz : (j : Int) < (ats.size : Int) := by omega
          obtain ⟨b, off, rfl, hbl, f⟩ := (HR2.out.below (belStep HB2.out HB.out)).at_ hlt
          have e0 := f 0 (by omega)
          have hb2w : b < w2.heap.size := Nat.lt_of_lt_of_le hbl HB2.out.size
          have HSH := Lib.hid (dblA_succ hlt)
          obtain ⟨x, hx⟩ : ∃ x, ats[j]! = x := ⟨_, rfl⟩
          rw [hx] at e0 HSH
          simp only [Nat.add_zero, encA_I, List.getElem!_cons_zero] at e0
          have HSH2 : Hid (dblA atts.toList ++ dblA (ats.toList.take (j + 1)) = (dblA atts.toList ++ dblA (ats.toList.take j)) ++ #[(x.1, x.1)]) := by show _ = _; rw [HSH.out, Array.append_assoc]
          obtain ⟨ho, hhoe⟩ : ∃ ho, dblA atts.toList ++ dblA (ats.toList.take j) = ho := ⟨_, rfl⟩
          rw [hhoe] at hho HSH2 hzh
          have HHo := Lib.hid hho
          clear f hx hho hhoe HSH
          have HXC : Hid (b < w2.heap.size ∧ w2.cell? ⟨b, off + j * 2, none⟩ = some (.int .i64 x.1)) := ⟨hb2w, (HB.out.cell (p := ⟨b, off + j * 2, none⟩) hb2w).symm.trans e0⟩
          have KS : Hid (∀ W, Below w2.heap.size w2 W → Below w2.heap.size w2 W ∧ W.cell? ⟨b, off + j * 2, none⟩ = some (.int .i64 x.1) ∧ W.cell? ⟨w.heap.size, 2, none⟩ = some (.slice (some ⟨b, off, none⟩) ats.size c2)) := fun W hb => ⟨hb, (hb.cell (p := ⟨b, off + j * 2, none⟩) HXC.out.1).trans HXC.out.2, (blk3 (blk_bel HK2.out hb)).1.2.2⟩
          clear hb2w
          have hbc : Below w2.heap.size w2 wr := HB.out
          go_wp2_with fail
          go_region_held3 (fun w' => Below w2.heap.size w2 w' ∧ w'.cell? ⟨b, off + j * 2, none⟩ = some (.int .i64 x.1) ∧ w'.cell? ⟨w.heap.size, 2, none⟩ = some (.slice (some ⟨b, off, none⟩) ats.size c2)) (first | assumption | exact KS.out _ (by assumption) | exact KS.out _ (And.left (by assumption)) | exact KS.out _ (Below.drew (by assumption)) | exact KS.out _ (Below.drew (And.left (by assumption))) | exact KS.out _ (belAlloc (by assumption) _) | exact KS.out _ (belAlloc (And.left (by assumption)) _) | exact KS.out _ (belAlloc (by assumption) _).drew | exact KS.out _ (belAlloc (And.left (by assumption)) _).drew | exact KS.out _ (belAlloc (Below.drew (by assumption)) _) | exact KS.out _ (belAlloc (Below.drew (And.left (by assumption))) _))
            ((refine step_append_R encA_1_I encA_len_I (by decide) (by rfl) _ _ _ (by rfl) w2 47 i0 _ 16 Tryz.underlying22 hi0 hz0 hz1 hz2 rfl _ ho (by rfl) (by first | exact HHo.out.alloc _ | exact (HHo.out.alloc _).drew | exact World.ownsRow.alloc HHo.out.drew _) _ _ _ _ #[(x.1, x.1)] (by rfl) (by rfl) (by first | exact one2A _ (x.1, x.1) _ | exact one2N _ (x.1, x.1) _) (fun h => by cases h) (by first | (simp; done) | (simp; omega)) (by decide) (by first | assumption | exact And.left (by assumption)) ?_; intro v3 w3 hown3 hgrow3 hBw3; have hal3 := World.ownsRow.kept (by first | exact HAl.out.alloc _ | exact (HAl.out.alloc _).drew | exact World.ownsRow.alloc HAl.out.drew _) hgrow3 (own_apart HAl.out HHo.out (by decide))))
          all_goals
            go_wp2
            exact ⟨⟨j + 1, by go_num, by omega, hal3, (by rw [HSH2.out]; exact hown3), hBw3⟩, by simp [intOf]; omega⟩
        · obtain rfl : j = ats.size := by omega
          have hlt' : ¬ (ats.size : Int) < (ats.size : Int) := by omega
          rw [List.take_of_length_le (by simp)] at hho
          have hhm : (dblA atts.toList ++ dblA ats.toList).toList.map (·.1) = holesK ⟨base, rs, ats⟩ atts := by
            rw [Array.toList_append, List.map_append, dblA_times, dblA_times]
            rfl
          have hbd : ∀ z ∈ (dblA atts.toList ++ dblA ats.toList).toList, 0 ≤ z.1 ∧ z.1 ≤ 1000000 := fun z hz => by
            have h1 := (riseL_iff _ _ _).1 HA.out.up
            have h2 := (riseL_iff _ _ _).1 HA.out.chk.up
            rw [Array.toList_append, List.mem_append] at hz
            rcases hz with hz | hz
            · obtain ⟨a, ha, rfl⟩ := List.mem_map.1 (show z ∈ atts.toList.map (fun a : Int × Int => (a.1, a.1)) from hz)
              have := h1.2 a ha
              simp only
              omega
            · obtain ⟨a, ha, rfl⟩ := List.mem_map.1 (show z ∈ ats.toList.map (fun a : Int × Int => (a.1, a.1)) from hz)
              have := h2.2 a ha
              simp only at this ⊢
              omega
          have hzs : (dblA atts.toList ++ dblA ats.toList).size = atts.size + ats.size := by simp [dblA]
          generalize dblA atts.toList ++ dblA ats.toList = hs at hho hhm hbd hzs
          have HHM := Lib.hid hhm
          have HBd := Lib.hid hbd
          obtain ⟨Ah, ch, rfl, hrh, hnh⟩ := rdK_of_owns (enc := encA_I) hho
          have HRh := Lib.hid hrh
          have hvl : ∀ g, va.ownBlock = some g → w2.heap.size ≤ g := fun g e => (HAl.out.lt g e).1
          obtain ⟨Aa, ca, hvae, hra, hna⟩ := rdK_of_owns (enc := encA_I) HAl.out
          have HRa := Lib.hid hra
          subst hvae
          have HNa := Lib.hid hna
          obtain ⟨w6, HW6⟩ : ∃ W, Hid (W = wr) := ⟨_, rfl⟩
          rw [← HW6.out] at HRh HRa HB
          clear hho hhm hbd hrh hnh hvl hra hna HAl hzh
          obtain ⟨w7, HW7⟩ : ∃ W, Hid (W = wr.alloc (.cells #[.int .i64 (max lo base + 1), .int .i64 hi] 47)) := ⟨_, rfl⟩
          have HRt0 : Hid (RdK encR 2 w7.heap.size w7 (some ⟨wr.heap.size, 0, none⟩) (tlK base lo hi hs 0)) := by
            rw [HW7.out, tlK_zero]
            exact (one2N wr (max lo base + 1, hi) 47).mono (by simp)
          have HB67 : Hid (Below w6.heap.size w6 w7) := by rw [HW7.out, HW6.out]; exact bel1 _ _
          have HBT : Hid (Below w2.heap.size w2 w7) := belStep HB.out HB67.out
          clear HB
          go_wp2
          go_loopw [14, 15] (fun vt iv wr => ∃ (j : Nat) (A : Option Addr) (c : Nat), iv = .int .i64 (j : Int) ∧ j ≤ hs.size ∧ vt = .slice A (tlK base lo hi hs j).size c ∧ RdK encR 2 wr.heap.size wr A (tlK base lo hi hs j) ∧ (A = none → c = 0) ∧ Below w7.heap.size w7 wr) (fun _ iv _ => hs.size - (intOf iv).toNat)
          case atStart => exact ⟨0, some ⟨wr.heap.size, 0, none⟩, 1, rfl, Nat.zero_le _, rfl, by have := HRt0.out; rw [HW7.out] at this; exact this, (fun h => by cases h), by rw [HW7.out]; exact Below.refl _ _⟩
          case round =>
            clear HRt0 HW7 HW6
            obtain ⟨j, A, c, rfl, hj, rfl, hrt, hnt, hB⟩ := hrel
            have HB := Lib.hid hB
            have HRt := Lib.hid hrt
            have HNt := Lib.hid hnt
            have hzt := tlK_size base lo hi hs j
            clear hB hrt hnt
            by_cases hlt : j < hs.size
            · have jz : (j : Int) < (hs.size : Int) := by omega
              obtain ⟨b, off, rfl, hbl, f⟩ := (HRh.out.below (belStep HB67.out HB.out)).at_ hlt
              have e0 := f 0 (by omega)
              have hzb := HBd.out hs[j]! (by rw [getElem!_pos hs j hlt]; simp)
              have HS := Lib.hid (tlK_succ base lo hi hlt)
              obtain ⟨z, hz⟩ : ∃ z, hs[j]!.1 = z := ⟨_, rfl⟩
              simp only [Nat.add_zero, encA_I, List.getElem!_cons_zero] at e0
              rw [hz] at e0 HS hzb
              have hwo := wo_any A c (tlK base lo hi hs j) z wr HRt.out (by omega) (by omega)
              obtain ⟨t2, ht2⟩ : ∃ t2, (woL z (tlK base lo hi hs j).toList).toArray = t2 := ⟨_, rfl⟩
              rw [ht2] at hwo HS
              have HWo := Lib.hid hwo
              clear f hz hwo ht2 hzb
              go_wp2_with fail
              refine HWo.out.mono ?_
              rintro e w8 ⟨v, rfl, hown, hb8⟩
              obtain ⟨A', c', rfl, hr', hn'⟩ := rdK_of_owns (enc := encR) hown
              have HB8 := Lib.hid (belStep HB.out hb8)
              have HR8 := Lib.hid hr'
              have HN8 := Lib.hid hn'
              clear hown hb8 hr' hn' e0
              go_wp2
              exact ⟨⟨j + 1, A', c', by go_num, by omega, by rw [HS.out], by rw [HS.out]; exact HR8.out, HN8.out, HB8.out⟩, by simp [intOf]; omega⟩
            · obtain rfl : j = hs.size := by omega
              have hlt' : ¬ (hs.size : Int) < (hs.size : Int) := by omega
              have htold := tlK_fin (k := ⟨base, rs, ats⟩) (lo := lo) (hi := hi) HHM.out
              simp only at htold
              obtain ⟨told, htl⟩ : ∃ told, tlK base lo hi hs hs.size = told := ⟨_, rfl⟩
              rw [htl] at HRt hzt htold ⊢
              have HB2w := Lib.hid (belStep HBT.out HB.out)
              obtain ⟨⟨k0, k1, k2⟩, _⟩ := blk3 (blk_bel HK2.out HB2w.out)
              have hkl : w.heap.size < wr.heap.size := blk_lt (blk_bel HK2.out HB2w.out)
              have hw2r := HB2w.out.size
              have HUn := Lib.hid (uni_any A1 c1 rs A c told wr ((HR1.out.below (belStep HB2.out HB2w.out)).mono (belStep HB2.out HB2w.out).size) HRt.out HM1.out HNt.out (by omega) (by rw [htold]; exact uni_add_ok HA.out))
              have HTo := Lib.hid htold
              clear htl htold
              go_wp2_with fail
              refine HUn.out.mono ?_
              rintro e w9 ⟨v, out, rfl, hIs, hsz, hown, hb9⟩
              have hfr : ∀ g, v.ownBlock = some g → wr.heap.size ≤ g := fun g e => (hown.lt g e).1
              obtain ⟨Au, cu, rfl, hru, hnu⟩ := rdK_of_owns (enc := encR) hown
              have HIs : Hid (IsN (pK ⟨base, rs, ats⟩ lo hi atts) out) := hIs.congr fun m => by rw [HTo.out]; exact uni_add (k := ⟨base, rs, ats⟩) m
              have d4 : decide ((400 : Int) < (al.size : Int)) = false := decide_eq_false (by omega)
              have d5 : decide ((1000 : Int) < (out.size : Int)) = false := decide_eq_false (by omega)
              have hou : out.size ≤ 1000 := by omega
              have HB29 := Lib.hid (belStep HB2w.out hb9)
              have HRu := Lib.hid hru
              have HNu := Lib.hid hnu
              have hgr : w.heap.size + 1 < w2.heap.size := HL2.out
              have hgr9 : w.heap.size + 1 < w9.heap.size := Nat.lt_of_lt_of_le hgr HB29.out.size
              have HFu : Hid (∀ g off, Au = some ⟨g, off, none⟩ → g ≠ w.heap.size + 1) := fun g off e => by
                have := hfr g (by rw [e]; rfl)
                omega
              obtain ⟨⟨k0, k1, k2⟩, _⟩ := blk3 (blk_bel HK2.out HB29.out)
              have hkl : w.heap.size < w9.heap.size := blk_lt (blk_bel HK2.out HB29.out)
              have HRa9 : Hid (RdK encA_I 2 w9.heap.size w9 Aa al) := by
                have h := belStep HB67.out (belStep HB.out hb9)
                exact (HRa.out.below h).mono h.size
              have HSrt : Hid (∀ W, Below w9.heap.size w9 W → Calls Tryz.prog 37 #[.slice Aa al.size ca] W fun e w' => ∃ A c, e = .returned (.slice A al.size c) ∧ RdK encA_I 2 w'.heap.size w' A (srtA al) ∧ (A = none → c = 0) ∧ (∀ g off, A = some ⟨g, off, none⟩ → g ≠ w.heap.size + 1) ∧ Below W.heap.size W w') := fun W hb => rSort_own Aa ca al W (w.heap.size + 1) ((HRa9.out.below hb).mono hb.size) (by omega) (Nat.lt_of_lt_of_le hgr9 hb.size)
              obtain ⟨pb, hpb⟩ : ∃ pb, preE out base = pb := ⟨_, rfl⟩
              have HFm : Hid (∀ W A n c, Below w9.heap.size w9 W → Calls Tryz.prog 36 #[.int .i64 base, .slice Au out.size cu, .slice A n c] W fun e w' => ∃ A' o' c', e = .returned (.tuple #[.agg #[.int .i64 pb, .slice A' o'.size c', .slice A n c], .int .i64 0]) ∧ LessE out (1, pb) o' ∧ RdK encR 2 w'.heap.size w' A' o' ∧ (A' = none → c' = 0) ∧ (0 < o'.size → ∀ g off, A' = some ⟨g, off, none⟩ → g ≠ w.heap.size + 1) ∧ Below W.heap.size W w') := fun W A n c hb => by
                have := rForm_any base Au cu out A n c W ((HRu.out.below hb).mono hb.size) HNu.out
                rw [hpb] at this
                refine this.mono fun e w' ⟨A', o', c', h1, h2, h3, h4, h5, h6⟩ => ⟨A', o', c', h1, h2, h3, h4, fun h0 g off e => ?_, h6⟩
                rcases h5 h0 g off e with h | ⟨h, _⟩
                · have := hb.size
                  omega
                · exact HFu.out g off (by rw [← h]; exact e)
              have HPb := Lib.hid hpb
              have HG9 := Lib.hid (blk_bel HG2.out HB29.out)
              clear hown hru hnu hb9 hfr hIs HUn hpb k1 k2
              have KS : Hid (∀ W, Below w9.heap.size w9 W → W.cell? ⟨w.heap.size, 0, none⟩ = some (.int .i64 base)) := fun W hb => (hb.cell (p := ⟨w.heap.size, 0, none⟩) hkl).trans k0
              have KT : Hid (∀ W a b c, Below w9.heap.size w9 W → (((W.setCell ⟨w.heap.size + 1, 0, none⟩ a).setCell ⟨w.heap.size + 1, 1, none⟩ b).setCell ⟨w.heap.size + 1, 2, none⟩ c).cell? ⟨w.heap.size, 0, none⟩ = some (.int .i64 base)) := fun W a b c hb => by
                have hne : ∀ i j, (⟨w.heap.size + 1, i, none⟩ : Addr).block ≠ (⟨w.heap.size, j, none⟩ : Addr).block := fun i j => by show w.heap.size + 1 ≠ w.heap.size; omega
                rw [World.cell?_setCell_far _ _ _ _ (hne _ _), World.cell?_setCell_far _ _ _ _ (hne _ _), World.cell?_setCell_far _ _ _ _ (hne _ _)]
                exact KS.out W hb
              have hb0 : Below w9.heap.size w9 w9 := Below.refl _ _
              go_wp2_with fail
              go_region_held3 (fun W => W.cell? ⟨w.heap.size, 0, none⟩ = some (.int .i64 base)) (first | with_reducible exact KS.out _ (by assumption) | with_reducible exact KS.out _ (Below.drew (by assumption)) | with_reducible exact KT.out _ _ _ _ (by assumption))
                (first
                  | (go_at_call 37; ((with_reducible refine (HSrt.out _ (by first | with_reducible assumption | exact Below.drew (by with_reducible assumption))).mono ?_); rintro e wa ⟨As, cs, rfl, hrs, hns, hfs, hba⟩; have HRs := Lib.hid hrs; have HNs := Lib.hid hns; have HFs := Lib.hid hfs; have hbA : Below w9.heap.size w9 wa := belStep (by first | with_reducible assumption | exact Below.drew (by with_reducible assumption)) hba; clear hrs hns hfs hba))
                  | (go_at_call 36; ((with_reducible refine (HFm.out _ _ _ _ (by first | with_reducible assumption | exact Below.drew (by with_reducible assumption))).mono ?_); rintro e wb ⟨Ao, oo, co, rfl, hL, hro, hno, hfo, hbb⟩; have HLs := Lib.hid hL; have HRo := Lib.hid hro; have HNo := Lib.hid hno; have HFo := Lib.hid hfo; have HRsB := Lib.hid (RdK.next_K HRs.out (by first | exact hbb | exact belStep (Below.drew (Below.refl _ _)) hbb)); have hbB : Below w9.heap.size w9 wb := belStep (by first | with_reducible assumption | exact Below.drew (by with_reducible assumption)) hbb; obtain ⟨⟨z0, z1, z2⟩, zf⟩ := blk3 (blk_bel HG9.out hbB); have hgb : w.heap.size + 1 < wb.heap.size := Nat.lt_of_lt_of_le hgr9 hbB.size; clear hL hro hno hfo hbb)))
              all_goals
                go_wp2
                refine bodyPost_ret (v := .tuple #[.agg #[.int .i64 pb, .slice Ao oo.size co, .slice As al.size cs], .int .i64 0]) ?_ rfl ⟨.agg #[.int .i64 pb, .slice Ao oo.size co, .slice As al.size cs], ⟨pb, oo, srtA al⟩, rfl, ?_, ?_, ?_⟩
                · simp [results, Tryz.results10, go_sem, z0, z1, z2]
                · refine ⟨Ao, co, As, cs, by rw [show (srtA al).size = al.size from srtA_size al], ?_, ?_, HNo.out, HNs.out⟩
                  · exact (((HRo.out.far0 ⟨w.heap.size + 1, 0, none⟩ _ HFo.out).far0 ⟨w.heap.size + 1, 1, none⟩ _ HFo.out).far0 ⟨w.heap.size + 1, 2, none⟩ _ HFo.out).mono (by simp)
                  · exact (((HRsB.out.far0 ⟨w.heap.size + 1, 0, none⟩ _ (fun _ => HFs.out)).far0 ⟨w.heap.size + 1, 1, none⟩ _ (fun _ => HFs.out)).far0 ⟨w.heap.size + 1, 2, none⟩ _ (fun _ => HFs.out)).mono (by simp)
                · exact ⟨out, HIs.out, hou, ⟨HPb.out.symm, HLs.out, HSo.out⟩⟩
                · exact (((belStep (belStep HB2.out HB29.out) hbB).setCell (by simp) _).setCell (by simp) _).setCell (by simp) _
theorem rAdd_any (v : Value) (k : KN) (lo hi : Int) (atts : Array (Int × Int)) (A3 : Option Addr) (c3 : Nat) (w : World) (h : KnV w v k) (h3 : RdK encA_I 2 w.heap.size w A3 atts) (s1 : k.rs.size ≤ 500) (s2 : k.ats.size ≤ 250) (s3 : atts.size ≤ 150) :
    Calls Tryz.prog 10 #[v, .int .i64 lo, .int .i64 hi, .slice A3 atts.size c3] w fun e w' => ((addB k lo hi atts = false ∧ e = .returned (.tuple #[.agg #[.int .i64 0, .slice none 0 0, .slice none 0 0], .int .i64 2])) ∨ (AddA k lo hi atts ∧ ∃ v r, e = .returned (.tuple #[v, .int .i64 0]) ∧ KnV w' v r ∧ AddR k lo hi atts r)) ∧ Below w.heap.size w w' := by
  obtain ⟨base, rs, ats⟩ := k
  obtain ⟨A1, c1, A2, c2, rfl, h1, h2, m1, m2⟩ := h
  cases hb : addB ⟨base, rs, ats⟩ lo hi atts
  · exact (rAdd_bad base rs ats A1 c1 A2 c2 lo hi atts A3 c3 w h1 h2 h3 (by omega) hb).mono fun e w' ⟨he, hw⟩ => ⟨Or.inl ⟨rfl, he⟩, hw⟩
  · exact (rAdd_ok base rs ats A1 c1 A2 c2 lo hi atts A3 c3 w h1 h2 h3 m1 m2 (add_iff.1 hb) s1 s2 s3).mono fun e w' ⟨v, r, he, hk, ha, hw⟩ => ⟨Or.inr ⟨add_iff.1 hb, v, r, he, hk, ha⟩, hw⟩
end Go.Proofs.YtgpejfkmdenonaaGreat
