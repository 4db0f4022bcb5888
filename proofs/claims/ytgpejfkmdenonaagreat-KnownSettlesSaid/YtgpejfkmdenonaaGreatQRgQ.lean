/- Contracts of the document's ranges: Same, Add, Less, Gaps; and the program's, in the same words. The law's probes: some answers that the document fixes. The plain law of few ranges: what is added, taken away and lacks always fits; the prefix; counting. -/
import Derived.Test.YtgpejfkmdenonaaGreatQRgM
import Derived.Laws.StructEq
namespace Go.Proofs.YtgpejfkmdenonaaGreat
open Go.RowKit Go.Sort Go.Lib

set_option maxHeartbeats 2000000 in
theorem r4Same_any (A1 A2 : Option Addr) (c1 c2 : Nat) (d1 d2 : Array (Int × Int)) (B1 B2 : Nat) (w : World) (h1 : RdK encR 2 B1 w A1 d1) (h2 : RdK encR 2 B2 w A2 d2) (hm : d2.size ≤ 100000000) :
    Calls Tryz.prog 38 #[.slice A1 d1.size c1, .slice A2 d2.size c2] w fun e w' => e = .returned (.bool (decide (d1 = d2))) ∧ ∃ n, w' = w.drewN n := by
  by_cases hs : d1.size = d2.size
  · have hb : ((d1.size : Int) != (d2.size : Int)) = false := by simp [hs]
    have HS := Lib.hid hs
    have hge : d1.size ≤ d2.size := by omega
    clear hs
    go_enter Tryz.func38, Tryz.ntmps38
    go_wp2
    go_loopw [5] (fun i wr => ∃ k n : Nat, k ≤ d1.size ∧ i = .int .i64 k ∧ wr = w.drewN n ∧ ∀ j, j < k → d1[j]! = d2[j]!) (fun i _ => d1.size - (intOf i).toNat)
    case atStart => exact ⟨0, 0, Nat.zero_le _, rfl, rfl, fun j hj => absurd hj (by omega)⟩
    case round =>
      obtain ⟨k, n, hk, rfl, rfl, hj⟩ := hrel
      have HJ := Lib.hid hj; clear hj
      by_cases hlt : k < d1.size
      · obtain ⟨b1, o1, rfl, _, f⟩ := h1.at_ hlt
        obtain ⟨b2, o2, rfl, _, g⟩ := h2.at_ (i := k) (by omega)
        have f0 := f 0 (by omega)
        have f1 := f 1 (by omega)
        have g0 := g 0 (by omega)
        have g1 := g 1 (by omega)
        clear f g
        have HX : Hid (k < d1.size) := hlt
        generalize hx : d1[k]! = x at f0 f1
        generalize hy : d2[k]! = y at g0 g1
        have HXX := Lib.hid hx; clear hx
        have HYY := Lib.hid hy; clear hy
        simp only [Nat.add_zero, encR, List.getElem!_cons_zero, List.getElem!_cons_succ] at f0 f1 g0 g1
        have kz : (k : Int) < (d1.size : Int) := by omega
        have kz2 : (k : Int) < (d2.size : Int) := by omega
        by_cases hxy : x = y
        · subst hxy
          go_wp2
          go_quiet (fail)
          go_wp2
          go_roundw
          case rel => exact ⟨k + 1, _, by omega, by go_num, rfl, fun j hj => by
            rcases Nat.lt_or_ge j k with h | h
            · exact HJ.out j h
            · obtain rfl : j = k := by omega
              rw [HXX.out, HYY.out]⟩
          case measure => simp [intOf]; omega
        · have HXY := Lib.hid hxy
          by_cases he : x.1 = y.1
          · have hd1 : (x.1 == y.1) = true := by simp [he]
            have hd : (x.2 == y.2) = false := by simp; intro h; exact hxy (Prod.ext he h)
            clear hxy he
            go_wp2
            go_quiet (fail)
            go_wp2
            go_ret
            exact ⟨ret_bool (by symm; rw [decide_eq_false_iff_not]; rintro rfl; exact HXY.out (by rw [← HXX.out, ← HYY.out])), _, World.drewN_drewN _ _ _⟩
          · have hd : (x.1 == y.1) = false := by simp [he]
            clear hxy he
            go_wp2
            go_quiet (fail)
            go_wp2
            go_ret
            exact ⟨ret_bool (by symm; rw [decide_eq_false_iff_not]; rintro rfl; exact HXY.out (by rw [← HXX.out, ← HYY.out])), _, World.drewN_drewN _ _ _⟩
      · go_wp2
        go_ret
        exact ⟨ret_bool (by symm; rw [decide_eq_true_iff]; exact arr_ext_R HS.out fun j hj => HJ.out j (by omega)), n, rfl⟩
  · have hb : ((d1.size : Int) != (d2.size : Int)) = true := by simp; omega
    have HS := Lib.hid hs; clear hs
    go_enter Tryz.func38, Tryz.ntmps38
    go_wp2
    go_ret
    exact ⟨ret_bool (by symm; rw [decide_eq_false_iff_not]; rintro rfl; exact HS.out rfl), 0, rfl⟩

theorem flat_lit (l : List (Int × Int)) : (l.flatMap encR).toArray = flatK encR 2 l.toArray := by
  apply Array.ext'
  rw [flatK_flatMap encR_len]
/-- The value is a slice that reads as the ranges, nil or not. -/
def RdV (w : World) (v : Value) (out : Array (Int × Int)) : Prop := ∃ A c, v = .slice A out.size c ∧ RdK encR 2 w.heap.size w A out ∧ (A = none → c = 0)
theorem RdV.below {w w' : World} {v : Value} {out : Array (Int × Int)} (h : RdV w v out) (hb : Below w.heap.size w w') : RdV w' v out := by
  obtain ⟨A, c, rfl, hr, hn⟩ := h
  exact ⟨A, c, rfl, (hr.below hb).mono hb.size, hn⟩
theorem RdV.own {w : World} {base : Nat} {e : TypeId} {v : Value} {out : Array (Int × Int)} (h : w.ownsRow base e 2 v out.size (flatK encR 2 out).toList) : RdV w v out := rdK_of_owns h
def AddE (d1 d2 out : Array (Int × Int)) : Prop := (setE_R d1 = 0 → Fit (pAdd d1 d2) d1 out) ∧ (setE_R d1 ≠ 0 → out = #[])
def LessE (d : Array (Int × Int)) (r : Int × Int) (out : Array (Int × Int)) : Prop := (setE_R d = 0 → Fit (pLess d r) d out) ∧ (setE_R d ≠ 0 → out = #[])
def GapsE (d : Array (Int × Int)) (r : Int × Int) (out : Array (Int × Int)) : Prop := (setE_R d = 0 → Fit (pGaps d r) #[] out) ∧ (setE_R d ≠ 0 → out = #[])
theorem AddE.uniq {d1 d2 a b : Array (Int × Int)} (h : AddE d1 d2 a) (k : AddE d1 d2 b) : a = b := by
  by_cases hs : setE_R d1 = 0
  · exact (h.1 hs).uniq (k.1 hs)
  · rw [h.2 hs, k.2 hs]
theorem LessE.uniq {d a b : Array (Int × Int)} {r : Int × Int} (h : LessE d r a) (k : LessE d r b) : a = b := by
  by_cases hs : setE_R d = 0
  · exact (h.1 hs).uniq (k.1 hs)
  · rw [h.2 hs, k.2 hs]
theorem GapsE.uniq {d a b : Array (Int × Int)} {r : Int × Int} (h : GapsE d r a) (k : GapsE d r b) : a = b := by
  by_cases hs : setE_R d = 0
  · exact (h.1 hs).uniq (k.1 hs)
  · rw [h.2 hs, k.2 hs]
theorem Fit.size {p : Int → Bool} {was out : Array (Int × Int)} (h : Fit p was out) (hw : was.size ≤ 1000) : out.size ≤ 1000 := by
  obtain ⟨s, _, rfl⟩ := h
  split
  · assumption
  · exact hw
theorem AddE.size {d1 d2 out : Array (Int × Int)} (h : AddE d1 d2 out) : out.size ≤ 1000 := by
  by_cases hs : setE_R d1 = 0
  · exact (h.1 hs).size (setE_all hs).1
  · rw [h.2 hs]; simp
theorem LessE.size {d out : Array (Int × Int)} {r : Int × Int} (h : LessE d r out) : out.size ≤ 1000 := by
  by_cases hs : setE_R d = 0
  · exact (h.1 hs).size (setE_all hs).1
  · rw [h.2 hs]; simp
theorem GapsE.size {d out : Array (Int × Int)} {r : Int × Int} (h : GapsE d r out) : out.size ≤ 1000 := by
  by_cases hs : setE_R d = 0
  · exact (h.1 hs).size (by simp)
  · rw [h.2 hs]; simp

/-! the program's -/
theorem gAdd_fit (A1 : Option Addr) (c1 : Nat) (d1 : Array (Int × Int)) (A2 : Option Addr) (c2 : Nat) (d2 : Array (Int × Int)) (w : World) (h1 : RdK encR 2 w.heap.size w A1 d1) (h2 : RdK encR 2 w.heap.size w A2 d2) (hd2 : d2.size ≤ 100000) :
    Calls Tryz.prog 30 #[.slice A1 d1.size c1, .slice A2 d2.size c2] w fun e w' => ∃ v out, e = .returned v ∧ AddE d1 d2 out ∧ RdV w' v out ∧ Below w.heap.size w w' :=
  (gAdd_any A1 c1 d1 A2 c2 d2 w h1 h2 hd2).mono fun _ _ ⟨v, out, he, ho1, ho2, hown, hb⟩ => ⟨v, out, he, ⟨fun hs => add_fit hs (ho1 hs), ho2⟩, RdV.own hown, hb⟩
theorem gLess_fit (A1 : Option Addr) (c1 : Nat) (d1 : Array (Int × Int)) (r : Int × Int) (w : World) (h1 : RdK encR 2 w.heap.size w A1 d1) :
    Calls Tryz.prog 77 #[.slice A1 d1.size c1, .agg #[.int .i64 r.1, .int .i64 r.2]] w fun e w' => ∃ v out, e = .returned v ∧ LessE d1 r out ∧ RdV w' v out ∧ Below w.heap.size w w' :=
  (gLess_any A1 c1 d1 r w h1).mono fun _ _ ⟨v, out, he, ho1, ho2, hown, hb⟩ => ⟨v, out, he, ⟨fun hs => less_fit hs (ho1 hs), ho2⟩, RdV.own hown, hb⟩
theorem gCut_fit (A1 : Option Addr) (c1 : Nat) (d1 : Array (Int × Int)) (n : Int) (w : World) (h1 : RdK encR 2 w.heap.size w A1 d1) :
    Calls Tryz.prog 62 #[.slice A1 d1.size c1, .int .i64 n] w fun e w' => ∃ v out, e = .returned v ∧ LessE d1 (1, n) out ∧ RdV w' v out ∧ Below w.heap.size w w' :=
  (gCut_any A1 c1 d1 n w h1).mono fun _ _ ⟨v, out, he, ho1, ho2, hown, hb⟩ => ⟨v, out, he, ⟨fun hs => less_fit hs (ho1 hs), ho2⟩, RdV.own hown, hb⟩
/-! the document's -/
theorem RdV.fits {w : World} {A1 A2 : Option Addr} {c1 c2 : Nat} {s was : Array (Int × Int)} (h1 : RdV w (.slice A1 s.size c1) s) (h2 : RdV w (.slice A2 was.size c2) was) : RdV w (if s.size ≤ 1000 then .slice A1 s.size c1 else .slice A2 was.size c2) (fitE s was) := by
  unfold fitE
  split
  · exact h1
  · exact h2
theorem fits_rd {w : World} {A1 A2 : Option Addr} {c1 c2 : Nat} {s was : Array (Int × Int)} (h1 : RdV w (.slice A1 s.size c1) s) (h2 : RdV w (.slice A2 was.size c2) was) :
    Calls Tryz.prog 78 #[.slice A1 s.size c1, .slice A2 was.size c2] w fun e w' => ∃ v, e = .returned v ∧ RdV w v (fitE s was) ∧ w = w' :=
  (fits_any A1 A2 s.size c1 was.size c2 w).mono fun _ _ ⟨he, hw⟩ => ⟨_, he, RdV.fits h1 h2, hw⟩
set_option maxRecDepth 100000 in
set_option maxHeartbeats 4000000 in
theorem r4Less_any (A1 : Option Addr) (c1 : Nat) (d1 : Array (Int × Int)) (r : Int × Int) (w : World) (h1 : RdK encR 2 w.heap.size w A1 d1) (n1 : A1 = none → c1 = 0) :
    Calls Tryz.prog 65 #[.slice A1 d1.size c1, .agg #[.int .i64 r.1, .int .i64 r.2]] w fun e w' => ∃ v out, e = .returned v ∧ LessE d1 r out ∧ RdV w' v out ∧ Below w.heap.size w w' := by
  have HN1 := Lib.hid n1
  clear n1
  have r0 := Lib.hid ((h1.alloc (Nat.le_refl _) (.cells #[.int .i64 r.1, .int .i64 r.2] 47)).mono (show w.heap.size ≤ (w.alloc (.cells #[.int .i64 r.1, .int .i64 r.2] 47)).heap.size by simp))
  by_cases hs : setE_R d1 = 0
  · have hq : (setE_R d1 != 0) = false := by simp [hs]
    have HS := Lib.hid hs
    have hd1 := (setE_all hs).1
    clear hs
    go_enter Tryz.func65, Tryz.ntmps65
    go_wp2_with fail
    refine (r4Check_any _ _ d1 _ _ r0.out).mono ?_
    rintro e w1 ⟨rfl, q, hw1⟩
    have hB1 : Below w.heap.size w w1 := by rw [hw1]; exact belDrewN (bel1 _ _) q
    have b0 : w1.cell? ⟨w.heap.size, 0, none⟩ = some (.int .i64 r.1) := by rw [hw1]; exact cell_new w #[.int .i64 r.1, .int .i64 r.2] _ 0
    have b1 : w1.cell? ⟨w.heap.size, 1, none⟩ = some (.int .i64 r.2) := by rw [hw1]; exact cell_new w #[.int .i64 r.1, .int .i64 r.2] _ 1
    clear hw1
    have r1 : RdK encR 2 (w1.alloc (.cells #[.int .i64 r.1, .int .i64 r.2] 47)).heap.size (w1.alloc (.cells #[.int .i64 r.1, .int .i64 r.2] 47)) A1 d1 := (((h1.below hB1).mono hB1.size).alloc (Nat.le_refl _) _).mono (by simp)
    have r2 : RdK encR 2 (w1.alloc (.cells #[.int .i64 r.1, .int .i64 r.2] 47)).heap.size (w1.alloc (.cells #[.int .i64 r.1, .int .i64 r.2] 47)) (some ⟨w1.heap.size, 0, none⟩) #[r] := (RdK.new w1 encR 2 #[r] 47 #[.int .i64 r.1, .int .i64 r.2] (flat_lit [r])).mono (by simp)
    have HH : Hid (Calls Tryz.prog 79 #[.slice A1 d1.size c1, .slice (some ⟨w1.heap.size, 0, none⟩) 1 1] _ _) := Lib.hid (of_any_R A1 c1 d1 (some ⟨w1.heap.size, 0, none⟩) 1 #[r] _ r1 r2 HN1.out (fun h => by cases h) (by simp; omega))
    go_wp2_with fail
    refine HH.out.mono ?_
    rintro e w4 ⟨v4, rfl, hown4, hb4⟩
    have hB4 : Below w.heap.size w w4 := belStep (belAlloc hB1 _) hb4
    have hV4 := RdV.own hown4
    have HF : Hid (LessE d1 r (fitE (ofE d1 #[r]) d1)) := ⟨fun hs => (ofE_fit d1 #[r] d1).congr (pOf_less hs r), fun h => absurd HS.out h⟩
    generalize ofE d1 #[r] = s at hV4 HF
    obtain ⟨A4, c4, rfl, hr4, hn4⟩ := hV4
    have HX := Lib.hid (fits_rd (w := w4) (A1 := A4) (c1 := c4) (s := s) ⟨A4, c4, rfl, hr4, hn4⟩ (A2 := A1) (c2 := c1) (was := d1) ⟨A1, c1, rfl, (h1.below hB4).mono hB4.size, HN1.out⟩)
    go_wp2_with fail
    refine HX.out.mono ?_
    rintro e w5 ⟨v5, rfl, hV5, rfl⟩
    go_wp2
    go_ret
    first | exact ⟨_, _, rfl, HF.out, hV5, hB4⟩ | exact ⟨_, rfl, _, HF.out, hV5, hB4⟩
  · have hq : (setE_R d1 != 0) = true := by simpa using hs
    have HS := Lib.hid hs
    clear hs
    go_enter Tryz.func65, Tryz.ntmps65
    go_wp2_with fail
    refine (r4Check_any _ _ d1 _ _ r0.out).mono ?_
    rintro e w1 ⟨rfl, q, hw1⟩
    have hB1 : Below w.heap.size w w1 := by rw [hw1]; exact belDrewN (bel1 _ _) q
    clear hw1
    go_wp2
    go_ret
    exact ⟨_, #[], rfl, ⟨fun h => absurd h HS.out, fun _ => rfl⟩, ⟨none, 0, rfl, fun h => absurd h (by decide), fun _ => rfl⟩, hB1⟩
end Go.Proofs.YtgpejfkmdenonaaGreat
namespace Go.Proofs.YtgpejfkmdenonaaGreat
open Go.RowKit Go.Sort Go.Lib

def sameR (a b : Array (Int × Int)) : Bool := decide (a = b)
theorem sameR_yes {a b : Array (Int × Int)} (h : a = b) : sameR a b = true := by unfold sameR; simp [h]
theorem sameR_iff {a b : Array (Int × Int)} : sameR a b = true ↔ a = b := by unfold sameR; simp
theorem r4Same_b (A1 A2 : Option Addr) (c1 c2 : Nat) (d1 d2 : Array (Int × Int)) (w : World) (h1 : RdK encR 2 w.heap.size w A1 d1) (h2 : RdK encR 2 w.heap.size w A2 d2) (hm : d2.size ≤ 100000000) :
    Calls Tryz.prog 38 #[.slice A1 d1.size c1, .slice A2 d2.size c2] w fun e w' => e = .returned (.bool (sameR d1 d2)) ∧ Below w.heap.size w w' :=
  (r4Same_any A1 A2 c1 c2 d1 d2 _ _ w h1 h2 hm).mono fun _ _ ⟨he, n, hw⟩ => ⟨he, by rw [hw]; exact belDrewN (Below.refl _ _) n⟩
theorem IsN.fit {p : Int → Bool} {s was : Array (Int × Int)} (h : IsN p s) (hs : s.size ≤ 1000) : Fit p was s := ⟨s, h, by rw [if_pos hs]⟩
theorem NL.lit {d : Array (Int × Int)} (h : setE_R d = 0) : NL d.toList := NL.of_set h
theorem aw_add : AddE #[] #[(1, 3), (4, 5), (9, 9)] #[(1, 5), (9, 9)] :=
  ⟨fun _ => IsN.fit ⟨NL.lit (by decide), fun n => by
    rw [Bool.eq_iff_iff]; unfold pAdd inR may1 inB_R; simp; omega⟩ (by decide), fun h => absurd (by decide) h⟩
theorem aw_cut : LessE #[(1, 5), (9, 9)] (1, 4) #[(5, 5), (9, 9)] :=
  ⟨fun _ => IsN.fit ⟨NL.lit (by decide), fun n => by
    rw [Bool.eq_iff_iff]; unfold pLess inR inB_R; simp; omega⟩ (by decide), fun h => absurd (by decide) h⟩
theorem aw_less : LessE #[(1, 5), (9, 9)] (2, 3) #[(1, 1), (4, 5), (9, 9)] :=
  ⟨fun _ => IsN.fit ⟨NL.lit (by decide), fun n => by
    rw [Bool.eq_iff_iff]; unfold pLess inR inB_R; simp; omega⟩ (by decide), fun h => absurd (by decide) h⟩
theorem aw_gaps : GapsE #[(1, 5), (9, 9)] (4, 10) #[(6, 8), (10, 10)] :=
  ⟨fun _ => IsN.fit ⟨NL.lit (by decide), fun n => by
    rw [Bool.eq_iff_iff]; unfold pGaps inR may1 inB_R; simp; omega⟩ (by decide), fun h => absurd (by decide) h⟩
theorem RdK.lit (w : World) (l : List (Int × Int)) (cs : Array Value) (h : cs = (l.flatMap encR).toArray) (e : TypeId) : RdK encR 2 (w.alloc (.cells cs e)).heap.size (w.alloc (.cells cs e)) (some ⟨w.heap.size, 0, none⟩) l.toArray :=
  (RdK.new w encR 2 l.toArray e cs (h.trans (flat_lit l))).mono (by simp)
theorem RdK.nil_ (w : World) (B : Nat) : RdK encR 2 B w none #[] := fun h => absurd h (by decide)
theorem RdK.up {B : Nat} {w w' : World} {A : Option Addr} {d : Array (Int × Int)} (h : RdK encR 2 w.heap.size w A d) (hb : Below w.heap.size w w') (_ : B = B) : RdK encR 2 w'.heap.size w' A d := (h.below hb).mono hb.size
end Go.Proofs.YtgpejfkmdenonaaGreat
namespace Go.Proofs.YtgpejfkmdenonaaGreat
open Go.RowKit Go.Sort Go.Lib

/-! few ranges always fit -/
theorem Formed.isN {m was out : Array (Int × Int)} (h : Formed m was out) (hm : ∀ x ∈ m, isR x = true → 1 ≤ x.1 ∧ x.1 ≤ x.2 ∧ x.2 ≤ 1000000) (hs : m.size ≤ 1000) : IsN (inR m) out ∧ out.size ≤ m.size := by
  obtain ⟨s, hs', ho⟩ := h.fit hm
  obtain ⟨d', hd', ho'⟩ := h
  have hsz : (formF (d'.toList.filter isR)).size ≤ m.size := by
    have := foldF_size (d'.toList.filter isR) #[]
    have h2 := List.length_filter_le isR d'.toList
    have h5 : d'.toList.length = m.size := by rw [Array.length_toList, hd'.1]
    have h6 : (#[] : Array (Int × Int)).size = 0 := rfl
    rw [h6] at this
    unfold formF
    omega
  rw [if_pos (by omega)] at ho'
  refine ⟨?_, by rw [ho']; exact hsz⟩
  by_cases hc : s.size ≤ 1000
  · rw [if_pos hc] at ho; rw [ho]; exact hs'
  · have h3 := (Formed.fit (was := #[]) ⟨d', hd', rfl⟩ hm)
    obtain ⟨s2, hs2, ho2⟩ := h3
    have : s = s2 := hs'.uniq hs2
    subst this
    rw [if_pos (show (formF (d'.toList.filter isR)).size ≤ 1000 by omega), if_neg hc] at ho2
    have h4 := (Formed.fit (was := #[(0, 0)]) ⟨d', hd', rfl⟩ hm)
    obtain ⟨s3, hs3, ho3⟩ := h4
    have : s = s3 := hs'.uniq hs3
    subst this
    rw [if_pos (show (formF (d'.toList.filter isR)).size ≤ 1000 by omega), if_neg hc, ho2] at ho3
    simp at ho3
theorem IsN.congr {p q : Int → Bool} {s : Array (Int × Int)} (h : IsN p s) (e : ∀ n, p n = q n) : IsN q s := ⟨h.1, fun n => (h.2 n).trans (e n)⟩
theorem IsN.set {p : Int → Bool} {s : Array (Int × Int)} (h : IsN p s) (hs : s.size ≤ 1000) : setE_R s = 0 := h.1.set hs
theorem IsN.has {p : Int → Bool} {s : Array (Int × Int)} (h : IsN p s) (hs : s.size ≤ 1000) (n : Int) : hasB_R s n = p n := by
  unfold hasB_R; rw [h.set hs, h.2 n]; simp
theorem add_few {d1 d2 out : Array (Int × Int)} (hs : setE_R d1 = 0) (h : Formed (addsN d1 d2 d2.size) d1 out) (hz : d1.size + d2.size ≤ 1000) : IsN (pAdd d1 d2) out ∧ out.size ≤ d1.size + d2.size := by
  have := h.isN (addsN_ok hs _) (by rw [addsN_size]; exact hz)
  rw [addsN_size] at this
  refine ⟨this.1.congr fun n => ?_, this.2⟩
  rw [Bool.eq_iff_iff, addsN_in]
  unfold pAdd
  rw [Bool.and_eq_true, Bool.or_eq_true, may1_iff, ← inR_iff_at]
  constructor
  · rintro (h | h)
    · exact ⟨inR_may (NL.of_set hs) h, Or.inl h⟩
    · exact ⟨h.1, Or.inr h.2⟩
  · rintro ⟨h, h1 | h1⟩
    · exact Or.inl h1
    · exact Or.inr ⟨h, h1⟩
theorem less_p {d : Array (Int × Int)} {r : Int × Int} (hs : setE_R d = 0) (he : ¬ (heldR r).2 < (heldR r).1) (n : Int) : inR (lessN d (heldR r) d.size) n = pLess d r n := by
  have hd := NL.of_set hs
  rw [Bool.eq_iff_iff, lessN_in d _ (by omega), ← inR_iff_at]
  unfold pLess
  rw [Bool.and_eq_true, Bool.not_eq_true', Bool.eq_false_iff, Ne, inB_iff]
  constructor
  · rintro ⟨h1, h2⟩
    have := inR_may hd h1
    refine ⟨h1, ?_⟩
    unfold heldR at h2
    simp only at h2
    omega
  · rintro ⟨h1, h2⟩
    refine ⟨h1, ?_⟩
    unfold heldR
    simp only
    omega
theorem less_few {d out : Array (Int × Int)} {r : Int × Int} (hs : setE_R d = 0) (h : LessOut d r out) (hz : d.size ≤ 500) : IsN (pLess d r) out ∧ out.size ≤ 1000 := by
  have hl := h
  unfold LessOut at h
  split at h
  · obtain ⟨s, h1, h2⟩ := less_fit hs hl
    subst h
    have : out.size ≤ 1000 := by omega
    rename_i he
    refine ⟨⟨NL.of_set hs, fun n => ?_⟩, this⟩
    unfold pLess
    cases hn : inR out n
    · rfl
    · have := inR_may (NL.of_set hs) hn
      have e : inB_R n r = false := by
        rw [Bool.eq_false_iff]
        intro h; rw [inB_iff] at h
        unfold heldR at he
        simp only at he
        omega
      rw [e]; rfl
  · rename_i he
    have hb : 1 ≤ (heldR r).1 ∧ (heldR r).2 ≤ 1000000 := by unfold heldR; constructor <;> (simp only; omega)
    have := h.isN (lessN_ok hs (by omega) _ (Nat.le_refl _)) (by rw [lessN_size]; omega)
    rw [lessN_size] at this
    exact ⟨this.1.congr (less_p hs he), by omega⟩
theorem gaps_p {d : Array (Int × Int)} {r : Int × Int} (hs : setE_R d = 0) (n : Int) : inR (gapsE d (heldR r)) n = pGaps d r n := by
  have hb : 1 ≤ (heldR r).1 ∧ (heldR r).2 ≤ 1000000 := by unfold heldR; constructor <;> (simp only; omega)
  have hrr : ∀ n, ((heldR r).1 ≤ n ∧ n ≤ (heldR r).2) ↔ (1 ≤ n ∧ n ≤ 1000000) ∧ r.1 ≤ n ∧ n ≤ r.2 := by intro n; unfold heldR; simp only; omega
  have bd := gapsN_bd hs hb.1 hb.2 d.size (Nat.le_refl _)
  have hin := gapsN_in hs (heldR r).1 (heldR r).2 n d.size (Nat.le_refl _)
  have hlo := gapsN_lo hs (heldR r).1 (heldR r).2 d.size (Nat.le_refl _)
  have hge : (gapsN d (heldR r).1 (heldR r).2 d.size).2 ≤ n → inR d n = false := by
    intro h
    rw [Bool.eq_false_iff]; intro hn
    obtain ⟨j, hj, h1, h2⟩ := inR_iff_at.1 hn
    rw [if_neg (by omega)] at hlo
    have := (NL.of_set hs).2
    rw [List.pairwise_iff_getElem] at this
    rcases Nat.lt_or_ge j (d.size - 1) with h' | h'
    · have t := this j (d.size - 1) (by simp; omega) (by simp; omega) h'
      have b := ok_at hs (k := d.size - 1) (by omega)
      rw [getElem!_pos d j (by omega)] at h2
      rw [getElem!_pos d (d.size - 1) (by omega)] at b hlo
      simp at t
      omega
    · obtain rfl : j = d.size - 1 := by omega
      omega
  have hno : (∀ j, j < d.size → ¬ (d[j]!.1 ≤ n ∧ n ≤ d[j]!.2)) ↔ inR d n = false := by
    rw [Bool.eq_false_iff, Ne, inR_iff_at]
    exact ⟨fun h ⟨j, hj, hh⟩ => h j hj hh, fun h j hj hh => h ⟨j, hj, hh⟩⟩
  rw [hno] at hin
  unfold pGaps
  rw [Bool.eq_iff_iff, Bool.and_eq_true, Bool.and_eq_true, may1_iff, inB_iff, Bool.not_eq_true']
  have e1 : inR (gapsE d (heldR r)) n = true ↔ inR (gapsN d (heldR r).1 (heldR r).2 d.size).1 n = true ∨ ((gapsN d (heldR r).1 (heldR r).2 d.size).2 ≤ n ∧ n ≤ (heldR r).2) := by
    unfold gapsE
    split
    · rw [inR_push, Bool.or_eq_true, inB_iff]
    · constructor
      · exact Or.inl
      · rintro (h | h)
        · exact h
        · omega
  rw [e1, hin]
  constructor
  · rintro (⟨⟨h1, h2, _⟩, h4⟩ | ⟨h1, h2⟩)
    · have := (hrr n).1 ⟨h1, h2⟩
      exact ⟨this.1, this.2, h4⟩
    · have := (hrr n).1 ⟨by omega, h2⟩
      exact ⟨this.1, this.2, hge h1⟩
  · rintro ⟨h1, h2, h3⟩
    have := (hrr n).2 ⟨h1, h2⟩
    rcases Int.lt_or_le n (gapsN d (heldR r).1 (heldR r).2 d.size).2 with h | h
    · exact Or.inl ⟨⟨this.1, this.2, h⟩, h3⟩
    · exact Or.inr ⟨h, this.2⟩
/-- What lacks of few ranges always fits. -/
theorem gaps_few {d out : Array (Int × Int)} {r : Int × Int} (hs : setE_R d = 0) (h : GapsOut d r out) (hz : d.size ≤ 500) : IsN (pGaps d r) out ∧ out.size ≤ 1000 := by
  have hb : 1 ≤ (heldR r).1 ∧ (heldR r).2 ≤ 1000000 := by unfold heldR; constructor <;> (simp only; omega)
  have hsz := gapsE_size hs hb.1 hb.2
  have h1 := Formed.isN h (gapsE_ok hs hb.1 hb.2) (by omega)
  exact ⟨h1.1.congr (gaps_p hs), by omega⟩
/-! the prefix -/
theorem pre_has {d : Array (Int × Int)} (hs : setE_R d = 0) (b : Int) : b ≤ preE d b ∧ (preE d b ≤ b ∨ preE d b ≤ 1000000) ∧ (∀ n, b < n → n ≤ preE d b → inR d n = true) ∧ inR d (preE d b + 1) = false := by
  have hd := NL.of_set hs
  unfold preE
  rw [if_pos hs]
  cases hf : d.toList.find? (preB b) with
  | none =>
    refine ⟨Int.le_refl _, Or.inl (Int.le_refl _), fun n h1 h2 => ?_, ?_⟩
    · simp at h2; omega
    · rw [Bool.eq_false_iff]
      intro hn
      obtain ⟨x, hx, h1, h2⟩ := inR_iff.1 hn
      have := List.find?_eq_none.1 hf x hx
      unfold preB at this
      simp at this h1 h2
      omega
  | some x =>
    have hx := List.mem_of_find?_eq_some hf
    have hp := List.find?_some hf
    unfold preB at hp
    simp only [decide_eq_true_eq] at hp
    have o := hd.1 x hx
    simp only [Option.map_some, Option.getD_some]
    refine ⟨by omega, Or.inr o.2.2, fun n h1 h2 => inR_iff.2 ⟨x, hx, by omega, h2⟩, ?_⟩
    rw [Bool.eq_false_iff]
    intro hn
    obtain ⟨y, hy, h1, h2⟩ := inR_iff.1 hn
    obtain ⟨i, hi, rfl⟩ := List.mem_iff_getElem.1 hx
    obtain ⟨j, hj, rfl⟩ := List.mem_iff_getElem.1 hy
    have hpw := List.pairwise_iff_getElem.1 hd.2
    rcases Nat.lt_trichotomy i j with h | rfl | h
    · have := hpw i j hi hj h; omega
    · omega
    · have := hpw j i hj hi h; omega
theorem pre_ge {d : Array (Int × Int)} (hs : setE_R d = 0) {b q : Int} (h : ∀ n, b < n → n ≤ q → inR d n = true) : q ≤ preE d b := by
  obtain ⟨h1, _, _, h4⟩ := pre_has hs b
  rcases Int.lt_or_le (preE d b) q with hl | hl
  · rw [h _ (by omega) (by omega)] at h4; cases h4
  · exact hl
/-! counting -/
def sumL (l : List (Int × Int)) : Int := (l.map fun x => x.2 - x.1 + 1).sum
theorem cntN_take (d : Array (Int × Int)) : ∀ k, k ≤ d.size → cntN d k = sumL (d.toList.take k)
  | 0, _ => by simp [cntN, sumL]
  | k + 1, hk => by
    have := cntN_take d k (by omega)
    have e : d.toList.take (k + 1) = d.toList.take k ++ [d[k]!] := by
      rw [List.take_succ_eq_append_getElem (by simp; omega), getElem!_pos d k (by omega)]; simp
    unfold cntN
    rw [this, e]
    simp [sumL]
/-- How many numbers from 1 to m are in some ranges. -/
def numL (l : List (Int × Int)) : Nat → Int
  | 0 => 0
  | m + 1 => numL l m + if l.any (inB_R (m + 1 : Nat)) = true then 1 else 0
theorem numL_mono {l k : List (Int × Int)} (h : ∀ n, l.any (inB_R n) = true → k.any (inB_R n) = true) : ∀ m, numL l m ≤ numL k m
  | 0 => Int.le_refl _
  | m + 1 => by
    have := numL_mono h m
    unfold numL
    by_cases hc : l.any (inB_R (m + 1 : Nat)) = true
    · rw [if_pos hc, if_pos (h _ hc)]; omega
    · rw [if_neg hc]; split <;> omega
theorem numL_nil : ∀ m, numL [] m = 0
  | 0 => rfl
  | m + 1 => by unfold numL; rw [numL_nil m]; simp
theorem numL_one {x : Int × Int} (h1 : 1 ≤ x.1) (h2 : x.1 ≤ x.2) : ∀ m : Nat, numL [x] m = if (m : Int) < x.1 then 0 else if (m : Int) ≤ x.2 then (m : Int) - x.1 + 1 else x.2 - x.1 + 1
  | 0 => by unfold numL; rw [if_pos (by omega)]
  | m + 1 => by
    have ih := numL_one h1 h2 m
    unfold numL
    rw [ih]
    have e : ([x].any (inB_R (m + 1 : Nat)) = true) ↔ x.1 ≤ (m : Int) + 1 ∧ (m : Int) + 1 ≤ x.2 := by simp [inB_R]
    simp only [e]
    have e2 : ((m + 1 : Nat) : Int) = (m : Int) + 1 := by omega
    rw [e2]
    split <;> split <;> (try split) <;> (try split) <;> omega
theorem numL_cons {x : Int × Int} {l : List (Int × Int)} (h : NL (x :: l)) : ∀ m, numL (x :: l) m = numL [x] m + numL l m
  | 0 => rfl
  | m + 1 => by
    have ih := numL_cons h m
    unfold numL
    rw [ih]
    have hd : ¬ ([x].any (inB_R (m + 1 : Nat)) = true ∧ l.any (inB_R (m + 1 : Nat)) = true) := by
      rintro ⟨h1, h2⟩
      have := h.gt h2
      simp [inB_R] at h1
      omega
    have hc : (x :: l).any (inB_R (m + 1 : Nat)) = true ↔ [x].any (inB_R (m + 1 : Nat)) = true ∨ l.any (inB_R (m + 1 : Nat)) = true := by
      rw [any_cons]; simp [inB_R]
    by_cases a : [x].any (inB_R (m + 1 : Nat)) = true
    · have b : ¬ l.any (inB_R (m + 1 : Nat)) = true := fun h' => hd ⟨a, h'⟩
      rw [if_pos (hc.2 (Or.inl a)), if_pos a, if_neg b]; omega
    · by_cases b : l.any (inB_R (m + 1 : Nat)) = true
      · rw [if_pos (hc.2 (Or.inr b)), if_neg a, if_pos b]; omega
      · rw [if_neg (fun h' => (hc.1 h').elim a b), if_neg a, if_neg b]; omega
theorem sumL_num : ∀ {l : List (Int × Int)}, NL l → sumL l = numL l 1000000
  | [], _ => by rw [numL_nil]; rfl
  | x :: l, h => by
    have o := h.1 x (by simp)
    rw [numL_cons h, ← sumL_num h.tail, numL_one o.1 o.2.1]
    rw [if_neg (by omega)]
    have : sumL (x :: l) = (x.2 - x.1 + 1) + sumL l := by simp [sumL]
    rw [this]
    split <;> omega
theorem cnt_le {a b : Array (Int × Int)} (ha : setE_R a = 0) (hb : setE_R b = 0) (h : ∀ n, inR a n = true → inR b n = true) : cntE a ≤ cntE b := by
  unfold cntE
  rw [if_pos ha, if_pos hb, cntN_take _ _ (Nat.le_refl _), cntN_take _ _ (Nat.le_refl _), List.take_of_length_le (by simp), List.take_of_length_le (by simp), sumL_num (NL.of_set ha), sumL_num (NL.of_set hb)]
  exact numL_mono h _
/-! back to front -/
def revN (d : Array (Int × Int)) : Nat → Array (Int × Int)
  | 0 => #[]
  | k + 1 => (revN d k).push d[d.size - 1 - k]!
theorem revN_size (d : Array (Int × Int)) : ∀ k, (revN d k).size = k
  | 0 => rfl
  | k + 1 => by simp [revN, revN_size d k]
theorem revN_in (d : Array (Int × Int)) (n : Int) : ∀ k, k ≤ d.size → (inR (revN d k) n = true ↔ ∃ j, d.size - k ≤ j ∧ j < d.size ∧ d[j]!.1 ≤ n ∧ n ≤ d[j]!.2)
  | 0, _ => by
    constructor
    · intro h; simp [revN, inR] at h
    · rintro ⟨j, h1, h2, _⟩; omega
  | k + 1, hk => by
    show inR ((revN d k).push _) n = true ↔ _
    rw [inR_push, Bool.or_eq_true, revN_in d n k (by omega), inB_iff]
    constructor
    · rintro (⟨j, h1, h2, h3⟩ | h)
      · exact ⟨j, by omega, h2, h3⟩
      · exact ⟨d.size - 1 - k, by omega, by omega, h⟩
    · rintro ⟨j, h1, h2, h3⟩
      rcases Nat.lt_or_ge j (d.size - k) with h | h
      · obtain rfl : j = d.size - 1 - k := by omega
        exact Or.inr h3
      · exact Or.inl ⟨j, h, h2, h3⟩
theorem revN_all (d : Array (Int × Int)) (n : Int) : inR (revN d d.size) n = inR d n := by
  rw [Bool.eq_iff_iff, revN_in d n d.size (Nat.le_refl _), inR_iff_at]
  constructor
  · rintro ⟨j, _, h⟩; exact ⟨j, h⟩
  · rintro ⟨j, h⟩; exact ⟨j, by omega, h⟩
theorem pAdd_rev (d1 d2 : Array (Int × Int)) (n : Int) : pAdd d1 (revN d2 d2.size) n = pAdd d1 d2 n := by unfold pAdd; rw [revN_all]
theorem pAdd_again {d1 d2 m : Array (Int × Int)} (h : IsN (pAdd d1 d2) m) (n : Int) : pAdd m d2 n = pAdd d1 d2 n := by
  have := h.2 n
  unfold pAdd at this ⊢
  rw [this]
  cases may1 n <;> cases inR d1 n <;> cases inR d2 n <;> rfl

/-! the contracts for few ranges -/
theorem gAdd_few (A1 : Option Addr) (c1 : Nat) (d1 : Array (Int × Int)) (A2 : Option Addr) (c2 : Nat) (d2 : Array (Int × Int)) (w : World) (h1 : RdK encR 2 w.heap.size w A1 d1) (h2 : RdK encR 2 w.heap.size w A2 d2) (hs : setE_R d1 = 0) (hz : d1.size + d2.size ≤ 1000) :
    Calls Tryz.prog 30 #[.slice A1 d1.size c1, .slice A2 d2.size c2] w fun e w' => ∃ v out, e = .returned v ∧ IsN (pAdd d1 d2) out ∧ out.size ≤ d1.size + d2.size ∧ RdV w' v out ∧ Below w.heap.size w w' :=
  (gAdd_any A1 c1 d1 A2 c2 d2 w h1 h2 (by omega)).mono fun _ _ ⟨v, out, he, ho1, _, hown, hb⟩ => ⟨v, out, he, (add_few hs (ho1 hs) hz).1, (add_few hs (ho1 hs) hz).2, RdV.own hown, hb⟩
theorem gLess_few (A1 : Option Addr) (c1 : Nat) (d1 : Array (Int × Int)) (r : Int × Int) (w : World) (h1 : RdK encR 2 w.heap.size w A1 d1) (hs : setE_R d1 = 0) (hz : d1.size ≤ 500) :
    Calls Tryz.prog 77 #[.slice A1 d1.size c1, .agg #[.int .i64 r.1, .int .i64 r.2]] w fun e w' => ∃ v out, e = .returned v ∧ IsN (pLess d1 r) out ∧ out.size ≤ 1000 ∧ RdV w' v out ∧ Below w.heap.size w w' :=
  (gLess_any A1 c1 d1 r w h1).mono fun _ _ ⟨v, out, he, ho1, _, hown, hb⟩ => ⟨v, out, he, (less_few hs (ho1 hs) hz).1, (less_few hs (ho1 hs) hz).2, RdV.own hown, hb⟩
end Go.Proofs.YtgpejfkmdenonaaGreat
