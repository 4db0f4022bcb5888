/- Contracts of the document's ranges: Same, Add, Less, Gaps; and the program's, in the same words. -/
import Derived.Test.YtpnjodefnpphkaaRangesO
import Derived.Laws.StructEq
namespace Go.Proofs.Ytpnjodefnpphkaa
open Go.RowKit Go.Sort Go.Lib

set_option maxHeartbeats 2000000 in
theorem r4Same_any (A1 A2 : Option Addr) (c1 c2 : Nat) (d1 d2 : Array (Int × Int)) (B1 B2 : Nat) (w : World) (h1 : RdK encR 2 B1 w A1 d1) (h2 : RdK encR 2 B2 w A2 d2) (hm : d2.size ≤ 100000000) :
    Calls Try.prog 32 #[.slice A1 d1.size c1, .slice A2 d2.size c2] w fun e w' => e = .returned (.bool (decide (d1 = d2))) ∧ ∃ n, w' = w.drewN n := by
  by_cases hs : d1.size = d2.size
  · have hb : ((d1.size : Int) != (d2.size : Int)) = false := by simp [hs]
    have HS := Lib.hid hs
    have hge : d1.size ≤ d2.size := by omega
    clear hs
    go_enter Try.func32, Try.ntmps32
    go_wp2
    go_loopw [5] (fun i wr => ∃ k n : Nat, k ≤ d1.size ∧ i = .int .i64 k ∧ wr = w.drewN n ∧ ∀ j, j < k → d1[j]! = d2[j]!) (fun i _ => d1.size - (intOf i).toNat)
    case atStart => exact ⟨0, 0, Nat.zero_le _, rfl, rfl, fun j hj => absurd hj (by omega)⟩
    case round =>
      obtain ⟨k, n, hk, rfl, rfl, hj⟩ := hrel
      have HJ := Lib.hid hj; clear hj
      by_cases hlt : k < d1.size
      · obtain ⟨b1, o1, rfl, _, f⟩ := h1.at_ hlt
        obtain ⟨b2, o2, rfl, _, g⟩ := h2.at_ (i := k) (by omega)
        have f0 := f 0 (by omega)
        have f1 := f 1 (by omega)
        have g0 := g 0 (by omega)
        have g1 := g 1 (by omega)
        clear f g
        have HX : Hid (k < d1.size) := hlt
        generalize hx : d1[k]! = x at f0 f1
        generalize hy : d2[k]! = y at g0 g1
        have HXX := Lib.hid hx; clear hx
        have HYY := Lib.hid hy; clear hy
        simp only [Nat.add_zero, encR, List.getElem!_cons_zero, List.getElem!_cons_succ] at f0 f1 g0 g1
        have kz : (k : Int) < (d1.size : Int) := by omega
        have kz2 : (k : Int) < (d2.size : Int) := by omega
        by_cases hxy : x = y
        · subst hxy
          go_wp2
          go_quiet (fail)
          go_wp2
          go_roundw
          case rel => exact ⟨k + 1, _, by omega, by go_num, rfl, fun j hj => by
            rcases Nat.lt_or_ge j k with h | h
            · exact HJ.out j h
            · obtain rfl : j = k := by omega
              rw [HXX.out, HYY.out]⟩
          case measure => simp [intOf]; omega
        · have HXY := Lib.hid hxy
          by_cases he : x.1 = y.1
          · have hd1 : (x.1 == y.1) = true := by simp [he]
            have hd : (x.2 == y.2) = false := by simp; intro h; exact hxy (Prod.ext he h)
            clear hxy he
            go_wp2
            go_quiet (fail)
            go_wp2
            go_ret
            exact ⟨ret_bool (by symm; rw [decide_eq_false_iff_not]; rintro rfl; exact HXY.out (by rw [← HXX.out, ← HYY.out])), _, World.drewN_drewN _ _ _⟩
          · have hd : (x.1 == y.1) = false := by simp [he]
            clear hxy he
            go_wp2
            go_quiet (fail)
            go_wp2
            go_ret
            exact ⟨ret_bool (by symm; rw [decide_eq_false_iff_not]; rintro rfl; exact HXY.out (by rw [← HXX.out, ← HYY.out])), _, World.drewN_drewN _ _ _⟩
      · go_wp2
        go_ret
        exact ⟨ret_bool (by symm; rw [decide_eq_true_iff]; exact arr_ext HS.out fun j hj => HJ.out j (by omega)), n, rfl⟩
  · have hb : ((d1.size : Int) != (d2.size : Int)) = true := by simp; omega
    have HS := Lib.hid hs; clear hs
    go_enter Try.func32, Try.ntmps32
    go_wp2
    go_ret
    exact ⟨ret_bool (by symm; rw [decide_eq_false_iff_not]; rintro rfl; exact HS.out rfl), 0, rfl⟩

theorem flat_lit (l : List (Int × Int)) : (l.flatMap encR).toArray = flatK encR 2 l.toArray := by
  apply Array.ext'
  rw [flatK_flatMap encR_len]
/-- The value is a slice that reads as the ranges, nil or not. -/
def RdV (w : World) (v : Value) (out : Array (Int × Int)) : Prop := ∃ A c, v = .slice A out.size c ∧ RdK encR 2 w.heap.size w A out ∧ (A = none → c = 0)
theorem RdV.below {w w' : World} {v : Value} {out : Array (Int × Int)} (h : RdV w v out) (hb : Below w.heap.size w w') : RdV w' v out := by
  obtain ⟨A, c, rfl, hr, hn⟩ := h
  exact ⟨A, c, rfl, (hr.below hb).mono hb.size, hn⟩
theorem RdV.own {w : World} {base : Nat} {e : TypeId} {v : Value} {out : Array (Int × Int)} (h : w.ownsRow base e 2 v out.size (flatK encR 2 out).toList) : RdV w v out := rdK_of_owns h
def AddE (d1 d2 out : Array (Int × Int)) : Prop := (setE d1 = 0 → Fit (pAdd d1 d2) d1 out) ∧ (setE d1 ≠ 0 → out = #[])
def LessE (d : Array (Int × Int)) (r : Int × Int) (out : Array (Int × Int)) : Prop := (setE d = 0 → Fit (pLess d r) d out) ∧ (setE d ≠ 0 → out = #[])
def GapsE (d : Array (Int × Int)) (r : Int × Int) (out : Array (Int × Int)) : Prop := (setE d = 0 → Fit (pGaps d r) #[] out) ∧ (setE d ≠ 0 → out = #[])
theorem AddE.uniq {d1 d2 a b : Array (Int × Int)} (h : AddE d1 d2 a) (k : AddE d1 d2 b) : a = b := by
  by_cases hs : setE d1 = 0
  · exact (h.1 hs).uniq (k.1 hs)
  · rw [h.2 hs, k.2 hs]
theorem LessE.uniq {d a b : Array (Int × Int)} {r : Int × Int} (h : LessE d r a) (k : LessE d r b) : a = b := by
  by_cases hs : setE d = 0
  · exact (h.1 hs).uniq (k.1 hs)
  · rw [h.2 hs, k.2 hs]
theorem GapsE.uniq {d a b : Array (Int × Int)} {r : Int × Int} (h : GapsE d r a) (k : GapsE d r b) : a = b := by
  by_cases hs : setE d = 0
  · exact (h.1 hs).uniq (k.1 hs)
  · rw [h.2 hs, k.2 hs]
theorem Fit.size {p : Int → Bool} {was out : Array (Int × Int)} (h : Fit p was out) (hw : was.size ≤ 1000) : out.size ≤ 1000 := by
  obtain ⟨s, _, rfl⟩ := h
  split
  · assumption
  · exact hw
theorem AddE.size {d1 d2 out : Array (Int × Int)} (h : AddE d1 d2 out) : out.size ≤ 1000 := by
  by_cases hs : setE d1 = 0
  · exact (h.1 hs).size (setE_all hs).1
  · rw [h.2 hs]; simp
theorem LessE.size {d out : Array (Int × Int)} {r : Int × Int} (h : LessE d r out) : out.size ≤ 1000 := by
  by_cases hs : setE d = 0
  · exact (h.1 hs).size (setE_all hs).1
  · rw [h.2 hs]; simp
theorem GapsE.size {d out : Array (Int × Int)} {r : Int × Int} (h : GapsE d r out) : out.size ≤ 1000 := by
  by_cases hs : setE d = 0
  · exact (h.1 hs).size (by simp)
  · rw [h.2 hs]; simp

/-! the program's -/
theorem gAdd_fit (A1 : Option Addr) (c1 : Nat) (d1 : Array (Int × Int)) (A2 : Option Addr) (c2 : Nat) (d2 : Array (Int × Int)) (w : World) (h1 : RdK encR 2 w.heap.size w A1 d1) (h2 : RdK encR 2 w.heap.size w A2 d2) (hd2 : d2.size ≤ 100000) :
    Calls Try.prog 35 #[.slice A1 d1.size c1, .slice A2 d2.size c2] w fun e w' => ∃ v out, e = .returned v ∧ AddE d1 d2 out ∧ RdV w' v out ∧ Below w.heap.size w w' :=
  (gAdd_any A1 c1 d1 A2 c2 d2 w h1 h2 hd2).mono fun _ _ ⟨v, out, he, ho1, ho2, hown, hb⟩ => ⟨v, out, he, ⟨fun hs => add_fit hs (ho1 hs), ho2⟩, RdV.own hown, hb⟩
theorem gLess_fit (A1 : Option Addr) (c1 : Nat) (d1 : Array (Int × Int)) (r : Int × Int) (w : World) (h1 : RdK encR 2 w.heap.size w A1 d1) :
    Calls Try.prog 37 #[.slice A1 d1.size c1, .agg #[.int .i64 r.1, .int .i64 r.2]] w fun e w' => ∃ v out, e = .returned v ∧ LessE d1 r out ∧ RdV w' v out ∧ Below w.heap.size w w' :=
  (gLess_any A1 c1 d1 r w h1).mono fun _ _ ⟨v, out, he, ho1, ho2, hown, hb⟩ => ⟨v, out, he, ⟨fun hs => less_fit hs (ho1 hs), ho2⟩, RdV.own hown, hb⟩
theorem gCut_fit (A1 : Option Addr) (c1 : Nat) (d1 : Array (Int × Int)) (n : Int) (w : World) (h1 : RdK encR 2 w.heap.size w A1 d1) :
    Calls Try.prog 39 #[.slice A1 d1.size c1, .int .i64 n] w fun e w' => ∃ v out, e = .returned v ∧ LessE d1 (1, n) out ∧ RdV w' v out ∧ Below w.heap.size w w' :=
  (gCut_any A1 c1 d1 n w h1).mono fun _ _ ⟨v, out, he, ho1, ho2, hown, hb⟩ => ⟨v, out, he, ⟨fun hs => less_fit hs (ho1 hs), ho2⟩, RdV.own hown, hb⟩
theorem gGaps_fit (A1 : Option Addr) (c1 : Nat) (d1 : Array (Int × Int)) (r : Int × Int) (w : World) (h1 : RdK encR 2 w.heap.size w A1 d1) :
    Calls Try.prog 33 #[.slice A1 d1.size c1, .int .i64 r.1, .int .i64 r.2] w fun e w' => ∃ v out, e = .returned v ∧ GapsE d1 r out ∧ RdV w' v out ∧ Below w.heap.size w w' :=
  (gGaps_any A1 c1 d1 r w h1).mono fun _ _ ⟨v, out, he, ho1, ho2, hown, hb⟩ => ⟨v, out, he, ⟨fun hs => gaps_fit hs (ho1 hs), ho2⟩, RdV.own hown, hb⟩

/-! the document's -/
theorem RdV.fits {w : World} {A1 A2 : Option Addr} {c1 c2 : Nat} {s was : Array (Int × Int)} (h1 : RdV w (.slice A1 s.size c1) s) (h2 : RdV w (.slice A2 was.size c2) was) : RdV w (if s.size ≤ 1000 then .slice A1 s.size c1 else .slice A2 was.size c2) (fitE s was) := by
  unfold fitE
  split
  · exact h1
  · exact h2
theorem fits_rd {w : World} {A1 A2 : Option Addr} {c1 c2 : Nat} {s was : Array (Int × Int)} (h1 : RdV w (.slice A1 s.size c1) s) (h2 : RdV w (.slice A2 was.size c2) was) :
    Calls Try.prog 61 #[.slice A1 s.size c1, .slice A2 was.size c2] w fun e w' => ∃ v, e = .returned v ∧ RdV w v (fitE s was) ∧ w = w' :=
  (fits_any A1 A2 s.size c1 was.size c2 w).mono fun _ _ ⟨he, hw⟩ => ⟨_, he, RdV.fits h1 h2, hw⟩
set_option maxRecDepth 100000 in
set_option maxHeartbeats 4000000 in
theorem r4Add_any (A1 : Option Addr) (c1 : Nat) (d1 : Array (Int × Int)) (A2 : Option Addr) (c2 : Nat) (d2 : Array (Int × Int)) (w : World) (h1 : RdK encR 2 w.heap.size w A1 d1) (h2 : RdK encR 2 w.heap.size w A2 d2) (n1 : A1 = none → c1 = 0) (n2 : A2 = none → c2 = 0) (hd2 : d2.size ≤ 50000) :
    Calls Try.prog 36 #[.slice A1 d1.size c1, .slice A2 d2.size c2] w fun e w' => ∃ v out, e = .returned v ∧ AddE d1 d2 out ∧ RdV w' v out ∧ Below w.heap.size w w' := by
  obtain ⟨i0, hi0, hz0, hz1, hz2⟩ := info_parts range_info
  have HN1 := Lib.hid n1
  have HN2 := Lib.hid n2
  clear n1 n2
  by_cases hs : setE d1 = 0
  · have hq : (setE d1 != 0) = false := by simp [hs]
    have HS := Lib.hid hs
    have hd1 := (setE_all hs).1
    clear hs
    go_enter Try.func36, Try.ntmps36
    go_wp2_with fail
    refine (r4Check_any _ _ d1 _ _ h1).mono ?_
    rintro e w1 ⟨rfl, q, hw1⟩
    have hB1 : Below w.heap.size w w1 := by rw [hw1]; exact belDrewN (Below.refl _ _) q
    clear hw1
    have r1 : RdK encR 2 w1.heap.size w1 A1 d1 := (h1.below hB1).mono hB1.size
    have r2 : RdK encR 2 w1.heap.size w1 A2 d2 := (h2.below hB1).mono hB1.size
    have HE0 := Lib.hid (empty_ownsK w1 42 encR 2)
    go_wp2_with (first
      | (at_builtin; refine append_rdK encR_one encR_len (by decide) rfl _ _ 33 rfl w1.heap.size 42 i0 (.agg #[.int .i64 0, .int .i64 0]) 16 Try.underlying33 hi0 hz0 hz1 hz2 rfl _ #[] rfl HE0.out w1.heap.size A1 c1 d1 rfl (r1.alloc (Nat.le_refl _) _) HN1.out (by simp; omega) (by decide) (by simp) ?_; intro v2 w2 hown2 hg2 _; have hB2 : Below w1.heap.size w1 w2 := (bel1 w1 _).grown hg2 (by simp) (fun k hk => (HE0.out.lt k hk).1))
      | (at_builtin; refine append_rdK encR_one encR_len (by decide) rfl _ _ 33 rfl w1.heap.size 42 i0 (.agg #[.int .i64 0, .int .i64 0]) 16 Try.underlying33 hi0 hz0 hz1 hz2 rfl v2 (#[] ++ d1) rfl hown2 w1.heap.size A2 c2 d2 rfl (r2.below hB2) HN2.out (by simp; omega) (by decide) hB2.size ?_; intro v3 w3 hown3 hg3 _; have hB3 : Below w1.heap.size w1 w3 := hB2.grown hg3 hB2.size (fun k hk => (hown2.lt k hk).1); obtain ⟨A3, c3, rfl, hr3, hn3⟩ := rdK_of_owns hown3))
    have e12 : #[] ++ d1 ++ d2 = d1 ++ d2 := by simp
    rw [e12] at hr3
    have HH := of_any A3 c3 (d1 ++ d2) none 0 #[] w3 hr3 (fun h => absurd h (by decide)) hn3 (fun _ => rfl) (by simp; omega)
    rw [show Value.slice A3 (d1 ++ d2).size c3 = Value.slice A3 (d1.size + d2.size) c3 by rw [Array.size_append]] at HH
    refine HH.mono ?_
    clear HH e12 hown2 hown3 hg2 hg3 HE0
    rintro e w4 ⟨v4, rfl, hown4, hb4⟩
    have hB4 : Below w.heap.size w w4 := belStep (belStep hB1 hB3) hb4
    have hV4 := RdV.own hown4
    have HF : Hid (AddE d1 d2 (fitE (ofE (d1 ++ d2) #[]) d1)) := ⟨fun _ => (ofE_fit (d1 ++ d2) #[] d1).congr (pOf_add d1 d2), fun h => absurd HS.out h⟩
    generalize ofE (d1 ++ d2) #[] = s at hV4 HF
    obtain ⟨A4, c4, rfl, hr4, hn4⟩ := hV4
    have HX := Lib.hid (fits_rd (w := w4) (A1 := A4) (c1 := c4) (s := s) ⟨A4, c4, rfl, hr4, hn4⟩ (A2 := A1) (c2 := c1) (was := d1) ⟨A1, c1, rfl, (h1.below hB4).mono hB4.size, HN1.out⟩)
    go_wp2_with fail
    refine HX.out.mono ?_
    rintro e w5 ⟨v5, rfl, hV5, rfl⟩
    go_wp2
    go_ret
    first | exact ⟨_, _, rfl, HF.out, hV5, hB4⟩ | exact ⟨_, rfl, _, HF.out, hV5, hB4⟩
  · have hq : (setE d1 != 0) = true := by simpa using hs
    have HS := Lib.hid hs
    clear hs
    go_enter Try.func36, Try.ntmps36
    go_wp2_with fail
    refine (r4Check_any _ _ d1 _ _ h1).mono ?_
    rintro e w1 ⟨rfl, q, hw1⟩
    have hB1 : Below w.heap.size w w1 := by rw [hw1]; exact belDrewN (Below.refl _ _) q
    clear hw1
    go_wp2
    go_ret
    exact ⟨_, #[], rfl, ⟨fun h => absurd h HS.out, fun _ => rfl⟩, ⟨none, 0, rfl, fun h => absurd h (by decide), fun _ => rfl⟩, hB1⟩
set_option maxRecDepth 100000 in
set_option maxHeartbeats 4000000 in
theorem r4Less_any (A1 : Option Addr) (c1 : Nat) (d1 : Array (Int × Int)) (r : Int × Int) (w : World) (h1 : RdK encR 2 w.heap.size w A1 d1) (n1 : A1 = none → c1 = 0) :
    Calls Try.prog 38 #[.slice A1 d1.size c1, .agg #[.int .i64 r.1, .int .i64 r.2]] w fun e w' => ∃ v out, e = .returned v ∧ LessE d1 r out ∧ RdV w' v out ∧ Below w.heap.size w w' := by
  have HN1 := Lib.hid n1
  clear n1
  have r0 := Lib.hid ((h1.alloc (Nat.le_refl _) (.cells #[.int .i64 r.1, .int .i64 r.2] 42)).mono (show w.heap.size ≤ (w.alloc (.cells #[.int .i64 r.1, .int .i64 r.2] 42)).heap.size by simp))
  by_cases hs : setE d1 = 0
  · have hq : (setE d1 != 0) = false := by simp [hs]
    have HS := Lib.hid hs
    have hd1 := (setE_all hs).1
    clear hs
    go_enter Try.func38, Try.ntmps38
    go_wp2_with fail
    refine (r4Check_any _ _ d1 _ _ r0.out).mono ?_
    rintro e w1 ⟨rfl, q, hw1⟩
    have hB1 : Below w.heap.size w w1 := by rw [hw1]; exact belDrewN (bel1 _ _) q
    have b0 : w1.cell? ⟨w.heap.size, 0, none⟩ = some (.int .i64 r.1) := by rw [hw1]; exact cell_new w #[.int .i64 r.1, .int .i64 r.2] _ 0
    have b1 : w1.cell? ⟨w.heap.size, 1, none⟩ = some (.int .i64 r.2) := by rw [hw1]; exact cell_new w #[.int .i64 r.1, .int .i64 r.2] _ 1
    clear hw1
    have r1 : RdK encR 2 (w1.alloc (.cells #[.int .i64 r.1, .int .i64 r.2] 42)).heap.size (w1.alloc (.cells #[.int .i64 r.1, .int .i64 r.2] 42)) A1 d1 := (((h1.below hB1).mono hB1.size).alloc (Nat.le_refl _) _).mono (by simp)
    have r2 : RdK encR 2 (w1.alloc (.cells #[.int .i64 r.1, .int .i64 r.2] 42)).heap.size (w1.alloc (.cells #[.int .i64 r.1, .int .i64 r.2] 42)) (some ⟨w1.heap.size, 0, none⟩) #[r] := (RdK.new w1 encR 2 #[r] 42 #[.int .i64 r.1, .int .i64 r.2] (flat_lit [r])).mono (by simp)
    have HH : Hid (Calls Try.prog 62 #[.slice A1 d1.size c1, .slice (some ⟨w1.heap.size, 0, none⟩) 1 1] _ _) := Lib.hid (of_any A1 c1 d1 (some ⟨w1.heap.size, 0, none⟩) 1 #[r] _ r1 r2 HN1.out (fun h => by cases h) (by simp; omega))
    go_wp2_with fail
    refine HH.out.mono ?_
    rintro e w4 ⟨v4, rfl, hown4, hb4⟩
    have hB4 : Below w.heap.size w w4 := belStep (belAlloc hB1 _) hb4
    have hV4 := RdV.own hown4
    have HF : Hid (LessE d1 r (fitE (ofE d1 #[r]) d1)) := ⟨fun hs => (ofE_fit d1 #[r] d1).congr (pOf_less hs r), fun h => absurd HS.out h⟩
    generalize ofE d1 #[r] = s at hV4 HF
    obtain ⟨A4, c4, rfl, hr4, hn4⟩ := hV4
    have HX := Lib.hid (fits_rd (w := w4) (A1 := A4) (c1 := c4) (s := s) ⟨A4, c4, rfl, hr4, hn4⟩ (A2 := A1) (c2 := c1) (was := d1) ⟨A1, c1, rfl, (h1.below hB4).mono hB4.size, HN1.out⟩)
    go_wp2_with fail
    refine HX.out.mono ?_
    rintro e w5 ⟨v5, rfl, hV5, rfl⟩
    go_wp2
    go_ret
    first | exact ⟨_, _, rfl, HF.out, hV5, hB4⟩ | exact ⟨_, rfl, _, HF.out, hV5, hB4⟩
  · have hq : (setE d1 != 0) = true := by simpa using hs
    have HS := Lib.hid hs
    clear hs
    go_enter Try.func38, Try.ntmps38
    go_wp2_with fail
    refine (r4Check_any _ _ d1 _ _ r0.out).mono ?_
    rintro e w1 ⟨rfl, q, hw1⟩
    have hB1 : Below w.heap.size w w1 := by rw [hw1]; exact belDrewN (bel1 _ _) q
    clear hw1
    go_wp2
    go_ret
    exact ⟨_, #[], rfl, ⟨fun h => absurd h HS.out, fun _ => rfl⟩, ⟨none, 0, rfl, fun h => absurd h (by decide), fun _ => rfl⟩, hB1⟩
set_option maxRecDepth 100000 in
set_option maxHeartbeats 4000000 in
theorem r4Gaps_any (A1 : Option Addr) (c1 : Nat) (d1 : Array (Int × Int)) (r : Int × Int) (w : World) (h1 : RdK encR 2 w.heap.size w A1 d1) (n1 : A1 = none → c1 = 0) :
    Calls Try.prog 34 #[.slice A1 d1.size c1, .int .i64 r.1, .int .i64 r.2] w fun e w' => ∃ v out, e = .returned v ∧ GapsE d1 r out ∧ RdV w' v out ∧ Below w.heap.size w w' := by
  have HN1 := Lib.hid n1
  clear n1
  by_cases hs : setE d1 = 0
  · have hq : (setE d1 != 0) = false := by simp [hs]
    have HS := Lib.hid hs
    have hd1 := (setE_all hs).1
    clear hs
    go_enter Try.func34, Try.ntmps34
    go_wp2_with fail
    refine (r4Check_any _ _ d1 _ _ h1).mono ?_
    rintro e w1 ⟨rfl, q, hw1⟩
    have hB1 : Below w.heap.size w w1 := by rw [hw1]; exact belDrewN (Below.refl _ _) q
    clear hw1
    have r1 : RdK encR 2 (w1.alloc (.cells #[.int .i64 r.1, .int .i64 r.2] 42)).heap.size (w1.alloc (.cells #[.int .i64 r.1, .int .i64 r.2] 42)) A1 d1 := (((h1.below hB1).mono hB1.size).alloc (Nat.le_refl _) _).mono (by simp)
    have r2 : RdK encR 2 (w1.alloc (.cells #[.int .i64 r.1, .int .i64 r.2] 42)).heap.size (w1.alloc (.cells #[.int .i64 r.1, .int .i64 r.2] 42)) (some ⟨w1.heap.size, 0, none⟩) #[r] := (RdK.new w1 encR 2 #[r] 42 #[.int .i64 r.1, .int .i64 r.2] (flat_lit [r])).mono (by simp)
    have HH : Hid (Calls Try.prog 62 #[.slice (some ⟨w1.heap.size, 0, none⟩) 1 1, .slice A1 d1.size c1] _ _) := Lib.hid (of_any (some ⟨w1.heap.size, 0, none⟩) 1 #[r] A1 c1 d1 _ r2 r1 (fun h => by cases h) HN1.out (by simp; omega))
    go_wp2_with fail
    refine HH.out.mono ?_
    rintro e w4 ⟨v4, rfl, hown4, hb4⟩
    have hB4 : Below w.heap.size w w4 := belStep (belAlloc hB1 _) hb4
    have hV4 := RdV.own hown4
    have HF : Hid (GapsE d1 r (fitE (ofE #[r] d1) #[])) := ⟨fun hs => (ofE_fit #[r] d1 #[]).congr (pOf_gaps d1 r), fun h => absurd HS.out h⟩
    generalize ofE #[r] d1 = s at hV4 HF
    obtain ⟨A4, c4, rfl, hr4, hn4⟩ := hV4
    have HX : Hid (Calls Try.prog 61 #[.slice A4 s.size c4, .slice none 0 0] _ _) := Lib.hid (fits_rd (w := w4) (A1 := A4) (c1 := c4) (s := s) ⟨A4, c4, rfl, hr4, hn4⟩ (A2 := none) (c2 := 0) (was := #[]) ⟨none, 0, rfl, fun h => absurd h (by decide), fun _ => rfl⟩)
    go_wp2_with fail
    refine HX.out.mono ?_
    rintro e w5 ⟨v5, rfl, hV5, rfl⟩
    go_wp2
    go_ret
    first | exact ⟨_, _, rfl, HF.out, hV5, hB4⟩ | exact ⟨_, rfl, _, HF.out, hV5, hB4⟩
  · have hq : (setE d1 != 0) = true := by simpa using hs
    have HS := Lib.hid hs
    clear hs
    go_enter Try.func34, Try.ntmps34
    go_wp2_with fail
    refine (r4Check_any _ _ d1 _ _ h1).mono ?_
    rintro e w1 ⟨rfl, q, hw1⟩
    have hB1 : Below w.heap.size w w1 := by rw [hw1]; exact belDrewN (Below.refl _ _) q
    clear hw1
    go_wp2
    go_ret
    exact ⟨_, #[], rfl, ⟨fun h => absurd h HS.out, fun _ => rfl⟩, ⟨none, 0, rfl, fun h => absurd h (by decide), fun _ => rfl⟩, hB1⟩
end Go.Proofs.Ytpnjodefnpphkaa
