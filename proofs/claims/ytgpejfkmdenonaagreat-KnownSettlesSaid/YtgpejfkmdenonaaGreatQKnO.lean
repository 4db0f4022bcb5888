/- rubatoref16.Same; the probes' plain facts. Arguments of what is known, and of promises that are told, opened. -/
import Derived.Test.YtgpejfkmdenonaaGreatQKnM
import Derived.Test.YtgpejfkmdenonaaGreatQOp
import Derived.Test.YtgpejfkmdenonaaGreatLaw
import Derived.Deep.Fields
import Derived.Deep.Slices
import Derived.Lib.SmallJoins
namespace Go.Proofs.YtgpejfkmdenonaaGreat
open Go.RowKit Go.Sort Go.Lib
set_option maxRecDepth 100000
set_option maxHeartbeats 4000000 in
theorem rSame16_any (v1 v2 : Value) (k j : KN) (w : World) (h1 : KnV w v1 k) (h2 : KnV w v2 j) (s1 : k.rs.size ≤ 100000) (s2 : k.ats.size ≤ 100000) (s3 : j.rs.size ≤ 100000) (s4 : j.ats.size ≤ 100000) :
    Calls Tryz.prog 11 #[v1, v2] w fun e w' => e = .returned (.bool (sameK k j)) ∧ Below w.heap.size w w' := by
  obtain ⟨b1, r1, a1⟩ := k
  obtain ⟨b2, r2, a2⟩ := j
  obtain ⟨A1, c1, A2, c2, rfl, p1, p2, _, _⟩ := h1
  obtain ⟨A3, c3, A4, c4, rfl, p3, p4, _, _⟩ := h2
  have HR : Hid (∀ W, Below w.heap.size w W → Calls Tryz.prog 38 #[.slice A1 r1.size c1, .slice A3 r2.size c3] W fun e w' => e = .returned (.bool (decide (r1 = r2))) ∧ Below W.heap.size W w') := fun W hb => r4Same_b A1 A3 c1 c3 r1 r2 W ((p1.below hb).mono hb.size) ((p3.below hb).mono hb.size) (by simp only at s3; omega)
  have HA : Hid (∀ W, Below w.heap.size w W → Calls Tryz.prog 39 #[.slice A2 a1.size c2, .slice A4 a2.size c4] W fun e w' => e = .returned (.bool (decide (a1 = a2))) ∧ Below W.heap.size W w') := fun W hb => (SameAtts_any_I A2 A4 c2 c4 a1 a2 w.heap.size W (p2.below hb) (p4.below hb) (by simp only at s2; omega) (by simp only at s4; omega)).mono fun _ _ ⟨he, n, hw⟩ => ⟨he, by rw [hw]; exact belDrewN (Below.refl _ _) n⟩
  have HT := Lib.hid (two_blk w (.cells #[.int .i64 b1, .slice A1 r1.size c1, .slice A2 a1.size c2] 25) (.cells #[.int .i64 b2, .slice A3 r2.size c3, .slice A4 a2.size c4] 25))
  have HS : Hid (sameK ⟨b1, r1, a1⟩ ⟨b2, r2, a2⟩ = ((b1 == b2) && decide (r1 = r2) && decide (a1 = a2))) := Lib.hid rfl
  clear p1 p2 p3 p4 s1 s2 s3 s4
  generalize decide (r1 = r2) = er at HR HS
  generalize decide (a1 = a2) = ea at HA HS
  generalize sameK ⟨b1, r1, a1⟩ ⟨b2, r2, a2⟩ = sk at HS
  cases hb : (b1 == b2)
  · rw [hb] at HS
    have HF : Hid (sk = false) := HS.out
    clear HS HR HA
    go_enter Tryz.func11, Tryz.ntmps11
    go_wp2
    go_ret
    exact ⟨ret_bool HF.out.symm, belAlloc (bel1 w _) _⟩
  · rw [hb, Bool.true_and] at HS
    cases er
    · have HF : Hid (sk = false) := HS.out
      clear HS HA
      go_enter Tryz.func11, Tryz.ntmps11
      go_wp2_with fail
      refine (HR.out _ (belAlloc (bel1 w _) _)).mono ?_
      rintro e w1 ⟨rfl, hb1⟩
      have HB1 := Lib.hid (belStep (belAlloc (bel1 w _) _) hb1)
      clear hb1
      go_wp2
      go_ret
      exact ⟨ret_bool HF.out.symm, HB1.out⟩
    · have HF : Hid (sk = ea) := HS.out
      clear HS
      go_enter Tryz.func11, Tryz.ntmps11
      go_wp2_with fail
      refine (HR.out _ (belAlloc (bel1 w _) _)).mono ?_
      rintro e w1 ⟨rfl, hb1⟩
      obtain ⟨⟨u0, u1, u2⟩, _⟩ := blk3 (blk_bel HT.out.1 hb1)
      obtain ⟨⟨k0, k1, k2⟩, _⟩ := blk3 (blk_bel HT.out.2 hb1)
      have HB1 := Lib.hid (belStep (belAlloc (bel1 w _) _) hb1)
      have HAA := Lib.hid (HA.out w1 HB1.out)
      clear hb1 HA HR
      go_wp2_with fail
      refine HAA.out.mono ?_
      rintro e w2 ⟨rfl, hb2⟩
      go_wp2
      go_ret
      exact ⟨ret_bool HF.out.symm, belStep HB1.out hb2⟩

/-! what the probes are held against -/
def kkA : KN := ⟨2, #[(4, 5)], #[(3, 11)]⟩
theorem srtA_lit {d : Array (Int × Int)} (l : List (Int × Int)) (h : d = l.toArray) (hp : l.Pairwise (fun x y => x.1 < y.1)) : srtA d = l.toArray := by
  subst h
  exact srtA_self (by simpa using hp)
theorem kkA_add : AddR ⟨0, #[], #[]⟩ 0 5 #[(3, 11)] kkA := by
  refine ⟨#[(1, 2), (4, 5)], ⟨NL.lit (by decide), fun n => ?_⟩, by decide, ⟨by decide, ?_, ?_⟩⟩
  · rw [Bool.eq_iff_iff, pK_iff]
    show inR #[(1, 2), (4, 5)] n = true ↔ inR #[] n = true ∨ ((max 0 0 < n ∧ n ≤ 5) ∧ n ∉ [3] ∧ n ∉ ([] : List Int))
    unfold inR
    simp [inB_iff]
    omega
  · refine ⟨fun _ => IsN.fit ⟨NL.lit (by decide), fun n => ?_⟩ (by decide), fun h => absurd (by decide) h⟩
    rw [Bool.eq_iff_iff]; unfold pLess inR inB_R kkA; simp; omega
  · show #[(3, 11)] = mrgK _ _
    unfold mrgK
    exact (srtA_lit [(3, 11)] (by decide) (by simp)).symm
theorem kkA_set : SetR kkA #[11, 12] ⟨5, #[], #[]⟩ := by
  refine ⟨#[(3, 5)], ⟨NL.lit (by decide), fun n => ?_⟩, by decide, ⟨by decide, ?_, by decide⟩⟩
  · rw [Bool.eq_iff_iff, pS_iff]
    unfold kkA
    simp [inB_R, inR]
    omega
  · refine ⟨fun _ => IsN.fit ⟨NL.lit (by decide), fun n => ?_⟩ (by decide), fun h => absurd (by decide) h⟩
    rw [Bool.eq_iff_iff]; unfold pLess inR inB_R; simp; omega
theorem kkA_open : OpenR kkA #[11] := ⟨by simp, fun x => by
  have : chkB kkA = true := by decide
  rw [this]
  simp [kkA]⟩
theorem kkA_facts : addB ⟨0, #[], #[]⟩ 0 5 #[(3, 11)] = true ∧ addB kkA 5 4 #[] = false ∧ chkB kkA = true ∧ hasK kkA 4 = true ∧ hasK kkA 3 = false ∧ hasK kkA 1 = true ∧ sameK kkA kkA = true ∧ chkE kkA = 0 ∧ chkE ⟨-1, #[], #[]⟩ = 2 := by decide
theorem box3b {w w1 : World} {a b c : Value} {T : TypeId} (hb : Below (w.alloc (.cells #[a, b, c] T)).heap.size (w.alloc (.cells #[a, b, c] T)) w1) : w1.heap[w.heap.size]? = some (.cells #[a, b, c] T (0, 0)) := (hb.block _ (by simp)).trans (heap_alloc_new w _)
theorem flat_of {enc : Int × Int → List Value} (hk : ∀ x, (enc x).length = 2) {d : Array (Int × Int)} {cs : Array Value} (h : cs = (d.toList.flatMap enc).toArray) : cs = flatK enc 2 d := by
  apply Array.toList_inj.1
  rw [flatK_flatMap hk, h]
theorem RdK.lit_K {enc : Int × Int → List Value} (hk : ∀ x, (enc x).length = 2) (w : World) (d : Array (Int × Int)) (cs : Array Value) (e : TypeId) (h : cs = (d.toList.flatMap enc).toArray) : RdK enc 2 (w.alloc (.cells cs e)).heap.size (w.alloc (.cells cs e)) (some ⟨w.heap.size, 0, none⟩) d := (RdK.new w enc 2 d e cs (flat_of hk h)).mono (by simp)
theorem RdI_R.lit_K (w : World) (d : Array Int) (cs : Array Value) (e : TypeId) (h : cs = d.map encI_R) : RdI_R (w.alloc (.cells cs e)).heap.size (w.alloc (.cells cs e)) (some ⟨w.heap.size, 0, none⟩) d := (RdI_R.new w d e cs h).mono (by simp)
theorem RdK.nil_K {enc : Int × Int → List Value} (w : World) (B : Nat) : RdK enc 2 B w none #[] := fun h => absurd h (by decide)
set_option maxHeartbeats 16000000 in
theorem aw16_any (w : World) : Calls Tryz.prog 8 #[] w fun e w' => e = .returned (.bool true) ∧ Below w.heap.size w w' := by
  obtain ⟨t1, t2, t3, t4, t5, t6, t7, t8, t9⟩ := kkA_facts
  have HT1 := Lib.hid t1
  have HT2 := Lib.hid t2
  have HT3 := Lib.hid t3
  have HT4 := Lib.hid t4
  have HT5 := Lib.hid t5
  have HT6 := Lib.hid t6
  have HT7 := Lib.hid t7
  have HT8 := Lib.hid t8
  have HT9 := Lib.hid t9
  clear t1 t2 t3 t4 t5 t6 t7 t8 t9
  have HA1 : Hid (Calls Tryz.prog 9 #[.agg #[.int .i64 0, .slice none 0 0, .slice none 0 0], .int .i64 0, .int .i64 5, .slice (some ⟨w.heap.size, 0, none⟩) 1 1] _ _) := Lib.hid (kAdd_any (.agg #[.int .i64 0, .slice none 0 0, .slice none 0 0]) ⟨0, #[], #[]⟩ 0 5 #[(3, 11)] (some ⟨w.heap.size, 0, none⟩) 1 (w.alloc (.cells #[.int .i64 3, .int .i64 11] 50)) ⟨none, 0, none, 0, rfl, RdK.nil_K _ _, RdK.nil_K _ _, fun _ => rfl, fun _ => rfl⟩ (RdK.lit_K encA_len_I w #[(3, 11)] _ _ rfl) (by decide) (by decide) (by decide))
  go_enter Tryz.func8, Tryz.ntmps8
  go_wp2_with fail
  refine HA1.out.mono ?_
  rintro e w1 ⟨ho, hb1⟩
  rcases ho with ⟨hf, _⟩ | ⟨_, v, r, rfl, hk, hr, _⟩
  · rw [HT1.out] at hf; cases hf
  have hre : r = kkA := hr.uniq kkA_add
  have HRe := Lib.hid hre
  have HKn := Lib.hid hk
  have HB1 := Lib.hid (belStep (bel1 w _) hb1)
  obtain ⟨A1, c1, A2, c2, rfl, _⟩ := hk
  have HK : Hid (∀ W, Below w1.heap.size w1 W → KnV W (.agg #[.int .i64 r.base, .slice A1 r.rs.size c1, .slice A2 r.ats.size c2]) r) := fun W hb => HKn.out.below hb
  have z1 : r.rs.size ≤ 500 := by rw [hre]; decide
  have z2 : r.ats.size ≤ 250 := by rw [hre]; decide
  have HS1 : Hid (Calls Tryz.prog 16 #[.agg #[.int .i64 r.base, .slice A1 r.rs.size c1, .slice A2 r.ats.size c2], .slice (some ⟨w1.heap.size + 1, 0, none⟩) 2 2] _ _) := Lib.hid (kSettle_any (.agg #[.int .i64 r.base, .slice A1 r.rs.size c1, .slice A2 r.ats.size c2]) r #[11, 12] (some ⟨w1.heap.size + 1, 0, none⟩) 2 ((w1.alloc (.cells #[.int .i64 r.base, .slice A1 r.rs.size c1, .slice A2 r.ats.size c2] 25)).alloc (.cells #[.int .i64 11, .int .i64 12] 3)) (HK.out _ (belAlloc (bel1 _ _) _)) (by have := RdI_R.lit_K (w1.alloc (.cells #[.int .i64 r.base, .slice A1 r.rs.size c1, .slice A2 r.ats.size c2] 25)) #[11, 12] #[.int .i64 11, .int .i64 12] 3 (by simp [encI_R]); simpa using this) z1 (by decide))
  clear hb1 hr hre HA1 HKn
  go_wp2_with fail
  refine HS1.out.mono ?_
  rintro e w2 ⟨ho, hb2⟩
  rcases ho with ⟨hf, _⟩ | ⟨_, v2, r2, rfl, hk2, hr2, _⟩
  · rw [HRe.out, HT3.out] at hf; cases hf
  have hre2 : r2 = ⟨5, #[], #[]⟩ := by rw [HRe.out] at hr2; exact hr2.uniq kkA_set
  have HRe2 := Lib.hid hre2
  have HKn2 := Lib.hid hk2
  have HP1 := Lib.hid (show w2.heap[w1.heap.size]? = _ from (hb2.block _ (by simp; omega)).trans (two_blk w1 (.cells #[.int .i64 r.base, .slice A1 r.rs.size c1, .slice A2 r.ats.size c2] 25) (.cells #[.int .i64 11, .int .i64 12] 3)).1)
  have HB12 := Lib.hid (belStep (belAlloc (bel1 w1 _) _) hb2)
  obtain ⟨A3, c3, A4, c4, rfl, _⟩ := hk2
  have HK2 : Hid (∀ W, Below w2.heap.size w2 W → KnV W (.agg #[.int .i64 r2.base, .slice A3 r2.rs.size c3, .slice A4 r2.ats.size c4]) r2) := fun W hb => HKn2.out.below hb
  have y1 : r2.rs.size ≤ 500 := by rw [hre2]; decide
  have y2 : r2.ats.size ≤ 250 := by rw [hre2]; decide
  have HA2 : Hid (Calls Tryz.prog 9 #[.agg #[.int .i64 r.base, .slice A1 r.rs.size c1, .slice A2 r.ats.size c2], .int .i64 5, .int .i64 4, .slice none 0 0] _ _) := Lib.hid (kAdd_any (.agg #[.int .i64 r.base, .slice A1 r.rs.size c1, .slice A2 r.ats.size c2]) r 5 4 #[] none 0 (w2.alloc (.cells #[.int .i64 r2.base, .slice A3 r2.rs.size c3, .slice A4 r2.ats.size c4] 25)) (HK.out _ (belStep HB12.out (bel1 _ _))) (RdK.nil_K _ _) z1 z2 (by decide))
  clear hb2 hr2 hre2 HS1 HKn2
  obtain ⟨⟨u0, u1, u2⟩, _⟩ := blk3 HP1.out
  have hl1 := blk_lt HP1.out
  go_wp2_with fail
  refine HA2.out.mono ?_
  rintro e w3 ⟨ho, hb3⟩
  rcases ho with ⟨_, rfl⟩ | ⟨hf, _⟩
  rotate_left
  · have := add_iff.2 hf
    rw [HRe.out, HT2.out] at this
    cases this
  have HP2 := Lib.hid (show w3.heap[w2.heap.size]? = _ from (hb3.block _ (by simp)).trans (heap_alloc_new w2 (.cells #[.int .i64 r2.base, .slice A3 r2.rs.size c3, .slice A4 r2.ats.size c4] 25)))
  have HP13 := Lib.hid (show w3.heap[w1.heap.size]? = _ from (hb3.block _ (by have := blk_lt HP1.out; simp; omega)).trans (blk_alloc HP1.out))
  have HB23 := Lib.hid (belStep (bel1 w2 _) hb3)
  clear hb3 HA2 HP1 u0 u1 u2 hl1
  have hfw : ((w3.alloc (.cells #[.int .i64 0, .slice none 0 0, .slice none 0 0] 25)).alloc (.cells #[.int .i64 4, .int .i64 5] 47)).heap.size = w3.heap.size + 2 := by simp
  have hS1 : Calls Tryz.prog 11 #[.agg #[.int .i64 r.base, .slice A1 r.rs.size c1, .slice A2 r.ats.size c2], .agg #[.int .i64 2, .slice (some ⟨w3.heap.size + 1, 0, none⟩) 1 1, .slice (some ⟨w3.heap.size + 2, 0, none⟩) 1 1]] (((w3.alloc (.cells #[.int .i64 0, .slice none 0 0, .slice none 0 0] 25)).alloc (.cells #[.int .i64 4, .int .i64 5] 47)).alloc (.cells #[.int .i64 3, .int .i64 11] 50)) fun e w' => e = .returned (.bool true) ∧ Below (((w3.alloc (.cells #[.int .i64 0, .slice none 0 0, .slice none 0 0] 25)).alloc (.cells #[.int .i64 4, .int .i64 5] 47)).alloc (.cells #[.int .i64 3, .int .i64 11] 50)).heap.size (((w3.alloc (.cells #[.int .i64 0, .slice none 0 0, .slice none 0 0] 25)).alloc (.cells #[.int .i64 4, .int .i64 5] 47)).alloc (.cells #[.int .i64 3, .int .i64 11] 50)) w' := by
    have ha : RdK encR 2 ((w3.alloc (.cells #[.int .i64 0, .slice none 0 0, .slice none 0 0] 25)).alloc (.cells #[.int .i64 4, .int .i64 5] 47)).heap.size ((w3.alloc (.cells #[.int .i64 0, .slice none 0 0, .slice none 0 0] 25)).alloc (.cells #[.int .i64 4, .int .i64 5] 47)) (some ⟨w3.heap.size + 1, 0, none⟩) #[(4, 5)] := by
      have := RdK.lit_K encR_len (w3.alloc (.cells #[.int .i64 0, .slice none 0 0, .slice none 0 0] 25)) #[(4, 5)] #[.int .i64 4, .int .i64 5] 47 rfl
      simpa using this
    have hb : RdK encA_I 2 (((w3.alloc (.cells #[.int .i64 0, .slice none 0 0, .slice none 0 0] 25)).alloc (.cells #[.int .i64 4, .int .i64 5] 47)).alloc (.cells #[.int .i64 3, .int .i64 11] 50)).heap.size (((w3.alloc (.cells #[.int .i64 0, .slice none 0 0, .slice none 0 0] 25)).alloc (.cells #[.int .i64 4, .int .i64 5] 47)).alloc (.cells #[.int .i64 3, .int .i64 11] 50)) (some ⟨w3.heap.size + 2, 0, none⟩) #[(3, 11)] := by
      have := RdK.lit_K encA_len_I ((w3.alloc (.cells #[.int .i64 0, .slice none 0 0, .slice none 0 0] 25)).alloc (.cells #[.int .i64 4, .int .i64 5] 47)) #[(3, 11)] #[.int .i64 3, .int .i64 11] 50 rfl
      rw [hfw] at this
      exact this
    refine (rSame16_any (.agg #[.int .i64 r.base, .slice A1 r.rs.size c1, .slice A2 r.ats.size c2]) (.agg #[.int .i64 2, .slice (some ⟨w3.heap.size + 1, 0, none⟩) 1 1, .slice (some ⟨w3.heap.size + 2, 0, none⟩) 1 1]) r kkA _ (HK.out _ (belStep HB12.out (belStep HB23.out (belAlloc (belAlloc (bel1 _ _) _) _)))) ⟨_, _, _, _, rfl, (ha.alloc (Nat.le_refl _) _).mono (by simp), hb, fun h => (by cases h), fun h => (by cases h)⟩ (by omega) (by omega) (by decide) (by decide)).mono fun e w' ⟨he, hw⟩ => ⟨?_, hw⟩
    rw [he, HRe.out, HT7.out]
  have HS1 := Lib.hid hS1
  obtain ⟨⟨u0, u1, u2⟩, _⟩ := blk3 HP13.out
  have hl1 := blk_lt HP13.out
  clear hS1 hfw
  go_wp2_with fail
  refine HS1.out.mono ?_
  rintro e w4 ⟨rfl, hb4⟩
  have HB34 := Lib.hid (belStep (belAlloc (belAlloc (bel1 w3 _) _) _) hb4)
  have HP14 := Lib.hid (blk_bel HP13.out HB34.out)
  have HP24 := Lib.hid (blk_bel HP2.out HB34.out)
  have HB24 := Lib.hid (belStep HB23.out HB34.out)
  have HB14 := Lib.hid (belStep HB12.out HB24.out)
  clear hb4 HS1 u0 u1 u2 hl1 HP13 HP2
  have hS2 := rSame16_any (.agg #[.int .i64 r2.base, .slice A3 r2.rs.size c3, .slice A4 r2.ats.size c4]) (.agg #[.int .i64 5, .slice none 0 0, .slice none 0 0]) r2 ⟨5, #[], #[]⟩ w4 (HK2.out _ HB24.out) ⟨none, 0, none, 0, rfl, RdK.nil_K _ _, RdK.nil_K _ _, fun _ => rfl, fun _ => rfl⟩ (by omega) (by omega) (by decide) (by decide)
  rw [show sameK r2 ⟨5, #[], #[]⟩ = true by rw [HRe2.out]; decide] at hS2
  have HS2 := Lib.hid hS2
  obtain ⟨⟨u0, u1, u2⟩, _⟩ := blk3 HP24.out
  clear hS2
  go_wp2_with fail
  refine HS2.out.mono ?_
  rintro e w5 ⟨rfl, hb5⟩
  have HP15 := Lib.hid (blk_bel HP14.out hb5)
  have HB15 := Lib.hid (belStep HB14.out hb5)
  clear hb5 HS2 u0 u1 u2 HP24 HP14
  have HO := Lib.hid (kOpen_any (.agg #[.int .i64 r.base, .slice A1 r.rs.size c1, .slice A2 r.ats.size c2]) r w5 (HK.out _ HB15.out) (by omega))
  obtain ⟨⟨u0, u1, u2⟩, _⟩ := blk3 HP15.out
  go_wp2_with fail
  refine HO.out.mono ?_
  rintro e w6 ⟨⟨Ao, so, co, rfl, hop, hro, _⟩, hb6⟩
  have hso : so = #[11] := by rw [HRe.out] at hop; exact hop.uniq kkA_open
  have HP16 := Lib.hid (blk_bel HP15.out hb6)
  have HB16 := Lib.hid (belStep HB15.out hb6)
  have hI : Calls Tryz.prog 18 #[.slice Ao so.size co, .slice (some ⟨w6.heap.size, 0, none⟩) 1 1] (w6.alloc (.cells #[.int .i64 11] 3)) fun e w' => e = .returned (.bool true) ∧ Below (w6.alloc (.cells #[.int .i64 11] 3)).heap.size (w6.alloc (.cells #[.int .i64 11] 3)) w' :=
    (SameInts_any_R Ao (some ⟨w6.heap.size, 0, none⟩) co 1 so #[11] _ _ _ (hro.alloc (Nat.le_refl _) _) (RdI_R.lit_K w6 #[11] #[.int .i64 11] 3 (by simp [encI_R])) (by decide)).mono fun e w' ⟨he, n, hw⟩ => ⟨by rw [he, hso]; rfl, by rw [hw]; exact belDrewN (Below.refl _ _) n⟩
  have HI := Lib.hid hI
  clear hb6 HO u0 u1 u2 HP15 hop hro hI hso
  go_wp2_with fail
  refine HI.out.mono ?_
  rintro e w7 ⟨rfl, hb7⟩
  have HP17 := Lib.hid (blk_bel HP16.out (belStep (bel1 _ _) hb7))
  have HB17 := Lib.hid (belStep HB16.out (belStep (bel1 _ _) hb7))
  clear hb7 HI HP16
  have hh7 := kHas_any (.agg #[.int .i64 r.base, .slice A1 r.rs.size c1, .slice A2 r.ats.size c2]) r 4 w7 (HK.out _ HB17.out)
  rw [show hasK r 4 = true by rw [HRe.out]; exact HT4.out] at hh7
  have HH7 := Lib.hid hh7
  obtain ⟨⟨u0, u1, u2⟩, _⟩ := blk3 HP17.out
  clear hh7
  go_wp2_with fail
  refine HH7.out.mono ?_
  rintro e w8 ⟨rfl, hb8⟩
  have HP18 := Lib.hid (blk_bel HP17.out hb8)
  have HB18 := Lib.hid (belStep HB17.out hb8)
  clear hb8 HH7 u0 u1 u2
  have hh8 := kHas_any (.agg #[.int .i64 r.base, .slice A1 r.rs.size c1, .slice A2 r.ats.size c2]) r 3 w8 (HK.out _ HB18.out)
  rw [show hasK r 3 = false by rw [HRe.out]; exact HT5.out] at hh8
  have HH8 := Lib.hid hh8
  obtain ⟨⟨u0, u1, u2⟩, _⟩ := blk3 HP18.out
  clear hh8
  go_wp2_with fail
  refine HH8.out.mono ?_
  rintro e w9 ⟨rfl, hb9⟩
  have HP19 := Lib.hid (blk_bel HP18.out hb9)
  have HB19 := Lib.hid (belStep HB18.out hb9)
  clear hb9 HH8 u0 u1 u2
  have hh9 := kHas_any (.agg #[.int .i64 r.base, .slice A1 r.rs.size c1, .slice A2 r.ats.size c2]) r 1 w9 (HK.out _ HB19.out)
  rw [show hasK r 1 = true by rw [HRe.out]; exact HT6.out] at hh9
  have HH9 := Lib.hid hh9
  obtain ⟨⟨u0, u1, u2⟩, _⟩ := blk3 HP19.out
  clear hh9
  go_wp2_with fail
  refine HH9.out.mono ?_
  rintro e w10 ⟨rfl, hb10⟩
  have HP110 := Lib.hid (blk_bel HP19.out hb10)
  have HB110 := Lib.hid (belStep HB19.out hb10)
  clear hb10 HH9 u0 u1 u2
  have hh10 := kSame_any (.agg #[.int .i64 r.base, .slice A1 r.rs.size c1, .slice A2 r.ats.size c2]) (.agg #[.int .i64 r.base, .slice A1 r.rs.size c1, .slice A2 r.ats.size c2]) r r w10 (HK.out _ HB110.out) (HK.out _ HB110.out) (by omega) (by omega) (by omega) (by omega)
  rw [show sameK r r = true by rw [HRe.out]; exact HT7.out] at hh10
  have HH10 := Lib.hid hh10
  obtain ⟨⟨u0, u1, u2⟩, _⟩ := blk3 HP110.out
  clear hh10
  go_wp2_with fail
  refine HH10.out.mono ?_
  rintro e w11 ⟨rfl, hb11⟩
  have HP111 := Lib.hid (blk_bel HP110.out hb11)
  have HB111 := Lib.hid (belStep HB110.out hb11)
  clear hb11 HH10 u0 u1 u2
  have hh11 := kCheck_any (.agg #[.int .i64 r.base, .slice A1 r.rs.size c1, .slice A2 r.ats.size c2]) r w11 (HK.out _ HB111.out)
  rw [show chkE r = 0 by rw [HRe.out]; exact HT8.out] at hh11
  have HH11 := Lib.hid hh11
  obtain ⟨⟨u0, u1, u2⟩, _⟩ := blk3 HP111.out
  clear hh11
  go_wp2_with fail
  refine HH11.out.mono ?_
  rintro e w12 ⟨rfl, hb12⟩
  have HB112 := Lib.hid (belStep HB111.out hb12)
  clear hb12 HH11 u0 u1 u2
  have hh12 := kCheck_any (.agg #[.int .i64 (-1), .slice none 0 0, .slice none 0 0]) ⟨-1, #[], #[]⟩ w12 ⟨none, 0, none, 0, rfl, RdK.nil_K _ _, RdK.nil_K _ _, fun _ => rfl, fun _ => rfl⟩
  rw [HT9.out] at hh12
  have HH12 := Lib.hid hh12
  clear hh12
  go_wp2_with fail
  refine HH12.out.mono ?_
  rintro e w13 ⟨rfl, hb13⟩
  go_wp2
  go_ret
  exact ⟨rfl, belStep HB1.out (belStep HB112.out hb13)⟩
end Go.Proofs.YtgpejfkmdenonaaGreat
namespace Go.Proofs.YtgpejfkmdenonaaGreat
open Go.ChangeShapes Go.WideShapes Go.ChangeAt Go.RowKit Go.Deep Go.Joins
section
variable {H : Type} {enc : TypeId × Value → H} {P : Program} {w : World}
/-- A struct of one-cell fields: its cells, each read by itself. -/
theorem open_fields_K {base : Nat} {spare : Nat → Bool} {held : Bool} {r : Reach} {b0 : Nat} {t : TypeId} {fs : Array Field} {v : Value} {d : DataW H} {p : List MemPlace} (hs : P.underlying t = some (.struct fs)) (hone : oneCellFields P fs = true) (hC : P.cellsOf t = fs.size)
    (hv : Value.okWide P w r b0 t v) (h : DataW.Trod enc P w base spare held t v d p) :
    ∃ cs : Array Value, v = .agg cs ∧ cs.size = fs.size ∧ ∀ (j : Nat) (u : TypeId), (fs[j]?).map (·.type) = some u → ∃ c y n, cs[j]? = some c ∧ DataW.trod enc P w base spare held n u [c] = some y := by
  obtain ⟨cs, rfl, hsz⟩ := okWide_struct hs hv
  obtain ⟨fuel, hf⟩ := h
  obtain ⟨xs, n, _, _, _, hlen, hg⟩ := DataW.trod_struct hs hf
  refine ⟨cs, rfl, hsz.trans hC, fun j u hj => ?_⟩
  obtain ⟨f, hf1, hf2⟩ := Option.map_eq_some_iff.1 hj
  obtain ⟨o, k⟩ := hone_of hone j f hf1
  have hjl : j < fs.size := (Array.getElem?_eq_some_iff.1 hf1).1
  have hjc : j < cs.size := by rw [hsz, hC]; exact hjl
  have h1 := hg j f hf1
  rw [o, k] at h1
  have hone' : ((Value.agg cs).cells.toList.drop j).take 1 = [cs[j]] := by
    show (cs.toList.drop j).take 1 = [cs[j]]
    rw [List.drop_eq_getElem_cons (by simpa using hjc)]
    simp
  rw [hone', hf2] at h1
  have hys : xs[j]? = some (xs[j]'(by omega)) := List.getElem?_eq_getElem (by omega)
  exact ⟨cs[j], xs[j]'(by omega), n, Array.getElem?_eq_getElem hjc, h1.trans hys⟩
theorem cell_int_K {t : TypeId} {v : Value} {n : Nat} {y : DataW H × List MemPlace} {base : Nat} {sp : Nat → Bool} {held : Bool} (ht : P.underlying t = some (.int .i64)) (h : DataW.trod enc P w base sp held n t [v] = some y) : ∃ x : Int, v = .int .i64 x := by
  obtain ⟨a, e0, _, _⟩ := DataW.trod_int ht h
  exact ⟨a, by simpa using e0⟩
def enc2 (x : Int × Int) : List Value := [.int .i64 x.1, .int .i64 x.2]
theorem cell_rd2 {t e : TypeId} {f0 f1 : Field} {v : Value} {n : Nat} {y : DataW H × List MemPlace} (ht : P.underlying t = some (.slice e)) (he : P.underlying e = some (.struct #[f0, f1])) (hone : oneCellFields P #[f0, f1] = true) (hC : P.cellsOf e = 2) (h0 : P.underlying f0.type = some (.int .i64)) (h1 : P.underlying f1.type = some (.int .i64))
    (h : DataW.trod enc P w 0 (fun _ => true) true n t [v] = some y) :
    ∃ (A : Option Addr) (c : Nat) (z : Array (Int × Int)), v = .slice A z.size c ∧ RdK enc2 2 w.heap.size w A z ∧ (A = none → c = 0) := by
  rcases open_slice ht h with ⟨hcs, _⟩ | ⟨a, len, cap', m, n, D, Pl, hcs, _, hl, hm, hmm, _, hi⟩
  · simp at hcs
    subst hcs
    exact ⟨none, 0, #[], rfl, (fun h => absurd h (by decide)), fun _ => rfl⟩
  · simp at hcs
    subst hcs
    simp at hmm
    subst hmm
    have hx : ∀ i, i < len → ∃ y : Int × Int, w.cell? (a.add (i * 2)) = some (.int .i64 y.1) ∧ w.cell? (a.add (i * 2 + 1)) = some (.int .i64 y.2) := by
      intro i hil
      obtain ⟨cs', hc, ht'⟩ := hi i (by omega)
      rw [hC] at hc
      obtain ⟨y, rfl⟩ := pair_cells_R he hone hC h0 h1 ht'
      obtain ⟨_, _, hat⟩ := World.cells?_some hc
      have a0 := hat 0 (by decide)
      have a1 := hat 1 (by decide)
      rw [add_add] at a0 a1
      exact ⟨y, a0, a1⟩
    obtain ⟨f, hf'⟩ := choose_lt hx
    have hsz : ((List.range len).map f).toArray.size = len := by simp
    refine ⟨some a, _, ((List.range len).map f).toArray, by rw [hsz], (fun hp => ?_), fun h => by cases h⟩
    rw [hsz] at hp
    obtain ⟨b, off, spot⟩ := a
    have hspot : spot = none := by simpa [Addr.add] using World.cell?_spot (hf' 0 hp).1
    subst hspot
    have hb : b < w.heap.size := by
      have := block_of_cell_R (hf' 0 hp).1
      simpa [Addr.add] using this
    refine ⟨b, off, rfl, hb, fun t ht => ?_⟩
    rw [hsz] at ht
    have hq : t / 2 < len := by omega
    have e1 : ((List.range len).map f).toArray[t / 2]! = f (t / 2) := by simp [hq]
    rw [Go.Sort.get_flatK _ _ _ _ (by rw [hsz]; exact ht), e1]
    have g := hf' (t / 2) hq
    rw [Addr.add_lit, Addr.add_lit] at g
    rcases Nat.mod_two_eq_zero_or_one t with h2 | h2
    · rw [h2, show off + t = off + t / 2 * 2 by omega]; exact g.1
    · rw [h2, show off + t = off + (t / 2 * 2 + 1) by omega]; exact g.2
end
theorem attFields_K : ∃ f0 f1 : Field, Tryz.prog.underlying 50 = some (.struct #[f0, f1]) ∧ oneCellFields Tryz.prog #[f0, f1] = true ∧ f0.type = 3 ∧ f1.type = 3 := ⟨_, _, Tryz.underlying50, by kernel_rfl, rfl, rfl⟩
theorem rngFields_K : ∃ f0 f1 : Field, Tryz.prog.underlying 47 = some (.struct #[f0, f1]) ∧ oneCellFields Tryz.prog #[f0, f1] = true ∧ f0.type = 3 ∧ f1.type = 3 := ⟨_, _, Tryz.underlying47, by kernel_rfl, rfl, rfl⟩
theorem attCells_K : Tryz.prog.cellsOf 50 = 2 := by kernel_rfl
theorem rngCells_K : Tryz.prog.cellsOf 47 = 2 := by kernel_rfl
theorem knUnder : Tryz.prog.underlying 25 = some (.struct (Tryz.prog.fieldsOf 25)) := by kernel_rfl
theorem knTypes : (Tryz.prog.fieldsOf 25).map (·.type) = #[3, 22, 23] := by kernel_rfl
theorem knOne : oneCellFields Tryz.prog (Tryz.prog.fieldsOf 25) = true := by kernel_rfl
theorem knCells : Tryz.prog.cellsOf 25 = (Tryz.prog.fieldsOf 25).size := by kernel_rfl
theorem knSize : (Tryz.prog.fieldsOf 25).size = 3 := by kernel_rfl
theorem arr3 {α : Type} {cs : Array α} {a b c : α} (hs : cs.size = 3) (h0 : cs[0]? = some a) (h1 : cs[1]? = some b) (h2 : cs[2]? = some c) : cs = #[a, b, c] := by
  apply Array.ext_getElem?
  intro j
  match j with
  | 0 => exact h0
  | 1 => exact h1
  | 2 => exact h2
  | j + 3 => rw [Array.getElem?_eq_none (by omega), Array.getElem?_eq_none (by simp)]
set_option maxRecDepth 100000 in
theorem open_known {H : Type} {enc : TypeId × Value → H} {w : World} {r : Reach} {b0 : Nat} {v : Value} {d : DataW H} {p : List MemPlace} (hv : Value.okWide Tryz.prog w r b0 25 v) (h : DataW.Trod enc Tryz.prog w 0 (fun _ => true) true 25 v d p) : ∃ k : KN, KnV w v k := by
  obtain ⟨cs, rfl, hcs, hf⟩ := open_fields_K knUnder knOne knCells hv h
  rw [knSize] at hcs
  have hty : ∀ j u, (#[3, 22, 23] : Array TypeId)[j]? = some u → ∃ c y n, cs[j]? = some c ∧ DataW.trod enc Tryz.prog w 0 (fun _ => true) true n u [c] = some y := fun j u hj => hf j u (by rw [← knTypes, Array.getElem?_map] at hj; exact hj)
  have hi := Tryz.underlying3
  obtain ⟨c0, _, _, k0, g0⟩ := hty 0 _ rfl
  obtain ⟨c1, _, _, k1, g1⟩ := hty 1 _ rfl
  obtain ⟨c2, _, _, k2, g2⟩ := hty 2 _ rfl
  obtain ⟨f0, f1, hA, hone, t0, t1⟩ := rngFields_K
  obtain ⟨f2, f3, hA2, hone2, t2, t3⟩ := attFields_K
  obtain ⟨x0, rfl⟩ := cell_int_K hi g0
  obtain ⟨A1, e1, z1, rfl, r1, n1⟩ := cell_rd2 Tryz.underlying22 hA hone rngCells_K (by rw [t0]; exact hi) (by rw [t1]; exact hi) g1
  obtain ⟨A2, e2, z2, rfl, r2, n2⟩ := cell_rd2 Tryz.underlying23 hA2 hone2 attCells_K (by rw [t2]; exact hi) (by rw [t3]; exact hi) g2
  refine ⟨⟨x0, z1, z2⟩, A1, e1, A2, e2, ?_, r1, r2, n1, n2⟩
  rw [arr3 hcs k0 k1 k2]
theorem moUnder : Tryz.prog.underlying 27 = some (.struct (Tryz.prog.fieldsOf 27)) := by kernel_rfl
theorem moTypes : (Tryz.prog.fieldsOf 27).map (·.type) = #[3, 3, 23] := by kernel_rfl
theorem moOne : oneCellFields Tryz.prog (Tryz.prog.fieldsOf 27) = true := by kernel_rfl
theorem moCells : Tryz.prog.cellsOf 27 = (Tryz.prog.fieldsOf 27).size := by kernel_rfl
theorem moSize : (Tryz.prog.fieldsOf 27).size = 3 := by kernel_rfl
set_option maxRecDepth 100000 in
theorem open_more {H : Type} {enc : TypeId × Value → H} {w : World} {r : Reach} {b0 : Nat} {v : Value} {d : DataW H} {p : List MemPlace} (hv : Value.okWide Tryz.prog w r b0 27 v) (h : DataW.Trod enc Tryz.prog w 0 (fun _ => true) true 27 v d p) : ∃ (lo hi : Int) (A : Option Addr) (c : Nat) (z : Array (Int × Int)), v = .agg #[.int .i64 lo, .int .i64 hi, .slice A z.size c] ∧ RdK encA_I 2 w.heap.size w A z ∧ (A = none → c = 0) := by
  obtain ⟨cs, rfl, hcs, hf⟩ := open_fields_K moUnder moOne moCells hv h
  rw [moSize] at hcs
  have hty : ∀ j u, (#[3, 3, 23] : Array TypeId)[j]? = some u → ∃ c y n, cs[j]? = some c ∧ DataW.trod enc Tryz.prog w 0 (fun _ => true) true n u [c] = some y := fun j u hj => hf j u (by rw [← moTypes, Array.getElem?_map] at hj; exact hj)
  have hi := Tryz.underlying3
  obtain ⟨c0, _, _, k0, g0⟩ := hty 0 _ rfl
  obtain ⟨c1, _, _, k1, g1⟩ := hty 1 _ rfl
  obtain ⟨c2, _, _, k2, g2⟩ := hty 2 _ rfl
  obtain ⟨f2, f3, hA2, hone2, t2, t3⟩ := attFields_K
  obtain ⟨x0, rfl⟩ := cell_int_K hi g0
  obtain ⟨x1, rfl⟩ := cell_int_K hi g1
  obtain ⟨A2, e2, z2, rfl, r2, n2⟩ := cell_rd2 Tryz.underlying23 hA2 hone2 attCells_K (by rw [t2]; exact hi) (by rw [t3]; exact hi) g2
  refine ⟨x0, x1, A2, e2, z2, ?_, r2, n2⟩
  rw [arr3 hcs k0 k1 k2]
def fewK (k : KN) : Bool := decide (k.rs.size ≤ 100) && decide (k.ats.size ≤ 100)
theorem fewK_iff {k : KN} : fewK k = true ↔ k.rs.size ≤ 100 ∧ k.ats.size ≤ 100 := by unfold fewK; simp
set_option maxRecDepth 100000 in
set_option maxHeartbeats 1000000 in
theorem Few16_any (v : Value) (k : KN) (w : World) (h : KnV w v k) : Calls Tryz.prog 7 #[v] w fun e w' => e = .returned (.bool (fewK k)) ∧ Below w.heap.size w w' := by
  obtain ⟨base, rs, ats⟩ := k
  obtain ⟨A1, c1, A2, c2, rfl, _⟩ := h
  have HF : Hid (fewK ⟨base, rs, ats⟩ = (decide (rs.size ≤ 100) && decide (ats.size ≤ 100))) := Lib.hid rfl
  by_cases h1 : rs.size ≤ 100
  · have q1 : decide ((rs.size : Int) ≤ 100) = true := decide_eq_true (by omega)
    by_cases h2 : ats.size ≤ 100
    · have q2 : decide ((ats.size : Int) ≤ 100) = true := decide_eq_true (by omega)
      have HE : Hid (fewK ⟨base, rs, ats⟩ = true) := by show _ = _; rw [HF.out]; simp [h1, h2]
      clear h1 h2
      go_enter Tryz.func7, Tryz.ntmps7
      go_wp2
      go_ret
      exact ⟨ret_bool HE.out.symm, bel1 w _⟩
    · have q2 : decide ((ats.size : Int) ≤ 100) = false := decide_eq_false (by omega)
      have HE : Hid (fewK ⟨base, rs, ats⟩ = false) := by show _ = _; rw [HF.out]; simp [h2]
      clear h1 h2
      go_enter Tryz.func7, Tryz.ntmps7
      go_wp2
      go_ret
      exact ⟨ret_bool HE.out.symm, bel1 w _⟩
  · have q1 : decide ((rs.size : Int) ≤ 100) = false := decide_eq_false (by omega)
    have HE : Hid (fewK ⟨base, rs, ats⟩ = false) := by show _ = _; rw [HF.out]; simp [h1]
    clear h1
    go_enter Tryz.func7, Tryz.ntmps7
    go_wp2
    go_ret
    exact ⟨ret_bool HE.out.symm, bel1 w _⟩
end Go.Proofs.YtgpejfkmdenonaaGreat
