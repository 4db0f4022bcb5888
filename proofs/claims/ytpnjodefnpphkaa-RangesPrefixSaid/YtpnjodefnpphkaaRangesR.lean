/- The law's probes: some answers that the document fixes. -/
import Derived.Test.YtpnjodefnpphkaaRangesQ
namespace Go.Proofs.Ytpnjodefnpphkaa
open Go.RowKit Go.Sort Go.Lib

def sameR (a b : Array (Int × Int)) : Bool := decide (a = b)
theorem sameR_yes {a b : Array (Int × Int)} (h : a = b) : sameR a b = true := by unfold sameR; simp [h]
theorem sameR_iff {a b : Array (Int × Int)} : sameR a b = true ↔ a = b := by unfold sameR; simp
theorem r4Same_b (A1 A2 : Option Addr) (c1 c2 : Nat) (d1 d2 : Array (Int × Int)) (w : World) (h1 : RdK encR 2 w.heap.size w A1 d1) (h2 : RdK encR 2 w.heap.size w A2 d2) (hm : d2.size ≤ 100000000) :
    Calls Try.prog 32 #[.slice A1 d1.size c1, .slice A2 d2.size c2] w fun e w' => e = .returned (.bool (sameR d1 d2)) ∧ Below w.heap.size w w' :=
  (r4Same_any A1 A2 c1 c2 d1 d2 _ _ w h1 h2 hm).mono fun _ _ ⟨he, n, hw⟩ => ⟨he, by rw [hw]; exact belDrewN (Below.refl _ _) n⟩
theorem IsN.fit {p : Int → Bool} {s was : Array (Int × Int)} (h : IsN p s) (hs : s.size ≤ 1000) : Fit p was s := ⟨s, h, by rw [if_pos hs]⟩
theorem NL.lit {d : Array (Int × Int)} (h : setE d = 0) : NL d.toList := NL.of_set h
theorem aw_add : AddE #[] #[(1, 3), (4, 5), (9, 9)] #[(1, 5), (9, 9)] :=
  ⟨fun _ => IsN.fit ⟨NL.lit (by decide), fun n => by
    rw [Bool.eq_iff_iff]; unfold pAdd inR may1 inB; simp; omega⟩ (by decide), fun h => absurd (by decide) h⟩
theorem aw_cut : LessE #[(1, 5), (9, 9)] (1, 4) #[(5, 5), (9, 9)] :=
  ⟨fun _ => IsN.fit ⟨NL.lit (by decide), fun n => by
    rw [Bool.eq_iff_iff]; unfold pLess inR inB; simp; omega⟩ (by decide), fun h => absurd (by decide) h⟩
theorem aw_less : LessE #[(1, 5), (9, 9)] (2, 3) #[(1, 1), (4, 5), (9, 9)] :=
  ⟨fun _ => IsN.fit ⟨NL.lit (by decide), fun n => by
    rw [Bool.eq_iff_iff]; unfold pLess inR inB; simp; omega⟩ (by decide), fun h => absurd (by decide) h⟩
theorem aw_gaps : GapsE #[(1, 5), (9, 9)] (4, 10) #[(6, 8), (10, 10)] :=
  ⟨fun _ => IsN.fit ⟨NL.lit (by decide), fun n => by
    rw [Bool.eq_iff_iff]; unfold pGaps inR may1 inB; simp; omega⟩ (by decide), fun h => absurd (by decide) h⟩
theorem RdK.lit (w : World) (l : List (Int × Int)) (cs : Array Value) (h : cs = (l.flatMap encR).toArray) (e : TypeId) : RdK encR 2 (w.alloc (.cells cs e)).heap.size (w.alloc (.cells cs e)) (some ⟨w.heap.size, 0, none⟩) l.toArray :=
  (RdK.new w encR 2 l.toArray e cs (h.trans (flat_lit l))).mono (by simp)
theorem RdK.nil_ (w : World) (B : Nat) : RdK encR 2 B w none #[] := fun h => absurd h (by decide)
theorem RdK.up {B : Nat} {w w' : World} {A : Option Addr} {d : Array (Int × Int)} (h : RdK encR 2 w.heap.size w A d) (hb : Below w.heap.size w w') (_ : B = B) : RdK encR 2 w'.heap.size w' A d := (h.below hb).mono hb.size
set_option maxRecDepth 100000 in
set_option maxHeartbeats 8000000 in
theorem aw4_any (w : World) : Calls Try.prog 23 #[] w fun e w' => e = .returned (.bool true) ∧ Below w.heap.size w w' := by
  have hc21 : setE #[(2, 1)] = 2 := by decide
  go_enter Try.func23, Try.ntmps23
  have HA : Hid (Calls Try.prog 35 #[.slice none 0 0, .slice (some ⟨w.heap.size, 0, none⟩) 3 3] _ _) := Lib.hid (gAdd_fit none 0 #[] (some ⟨w.heap.size, 0, none⟩) 3 #[(1, 3), (4, 5), (9, 9)] (w.alloc (.cells #[.int .i64 1, .int .i64 3, .int .i64 4, .int .i64 5, .int .i64 9, .int .i64 9] 42)) (RdK.nil_ _ _) (RdK.lit w [(1, 3), (4, 5), (9, 9)] _ rfl _) (by decide))
  go_wp2_with fail
  refine HA.out.mono ?_
  rintro e w0 ⟨v, L, rfl, hA, hV, hb0⟩
  have hL := hA.uniq aw_add
  have hB0 : Below w.heap.size w w0 := belStep (bel1 _ _) hb0
  obtain ⟨A, c, rfl, hr0, _⟩ := hV
  have s1 := sameR_yes hL
  have s2 : hasB L 5 = true := by rw [hL]; decide
  have s3 : hasB L 6 = false := by rw [hL]; decide
  have s4 : preE L 0 = 5 := by rw [hL]; decide
  have s5 : preE L 8 = 9 := by rw [hL]; decide
  have s6 : preE L 6 = 6 := by rw [hL]; decide
  have s7 : cntE L = 6 := by rw [hL]; decide
  have s8 : setE L = 0 := by rw [hL]; decide
  have hz : L.size ≤ 2 := by rw [hL]; decide
  have H2 : Hid (∀ o, LessE L (1, 4) o → sameR o #[(5, 5), (9, 9)] = true) := fun o h => sameR_yes (h.uniq (by rw [hL]; exact aw_cut))
  have H3 : Hid (∀ o, LessE L (2, 3) o → sameR o #[(1, 1), (4, 5), (9, 9)] = true) := fun o h => sameR_yes (h.uniq (by rw [hL]; exact aw_less))
  have H4 : Hid (∀ o, GapsE L (4, 10) o → sameR o #[(6, 8), (10, 10)] = true) := fun o h => sameR_yes (h.uniq (by rw [hL]; exact aw_gaps))
  clear hL hA hb0 HA
  have HS0 : Hid (Calls Try.prog 32 #[.slice A L.size c, .slice (some ⟨w0.heap.size, 0, none⟩) 2 2] _ _) := Lib.hid (r4Same_b A (some ⟨w0.heap.size, 0, none⟩) c 2 L #[(1, 5), (9, 9)] (w0.alloc (.cells #[.int .i64 1, .int .i64 5, .int .i64 9, .int .i64 9] 42)) ((hr0.alloc (Nat.le_refl _) _).mono (by simp)) (RdK.lit w0 [(1, 5), (9, 9)] _ rfl _) (by decide))
  go_wp2_with fail
  refine HS0.out.mono ?_
  rintro e w1 ⟨rfl, hb⟩
  have hr1 := (hr0.below (belStep (bel1 _ _) hb)).mono (belStep (bel1 _ _) hb).size
  have hB1 := belStep (belAlloc hB0 _) hb
  clear hb HS0 hr0 hB0
  go_wp2_with fail
  refine (gHas_any A c L 5 w1 hr1).mono ?_
  rintro e w2 ⟨rfl, hb⟩
  have hr2 := (hr1.below hb).mono hb.size
  have hB2 := belStep hB1 hb
  clear hb hr1 hB1
  go_wp2_with fail
  refine (gHas_any A c L 6 w2 hr2).mono ?_
  rintro e w3 ⟨rfl, hb⟩
  have hr3 := (hr2.below hb).mono hb.size
  have hB3 := belStep hB2 hb
  clear hb hr2 hB2
  go_wp2_with fail
  refine (gPrefix_any A c L 0 w3 hr3).mono ?_
  rintro e w4 ⟨rfl, hb⟩
  have hr4 := (hr3.below hb).mono hb.size
  have hB4 := belStep hB3 hb
  clear hb hr3 hB3
  go_wp2_with fail
  refine (gPrefix_any A c L 8 w4 hr4).mono ?_
  rintro e w5 ⟨rfl, hb⟩
  have hr5 := (hr4.below hb).mono hb.size
  have hB5 := belStep hB4 hb
  clear hb hr4 hB4
  go_wp2_with fail
  refine (gPrefix_any A c L 6 w5 hr5).mono ?_
  rintro e w6 ⟨rfl, hb⟩
  have hr6 := (hr5.below hb).mono hb.size
  have hB6 := belStep hB5 hb
  clear hb hr5 hB5
  go_wp2_with fail
  refine (gCount_any A c L w6 hr6 (by omega)).mono ?_
  rintro e w7 ⟨rfl, hb⟩
  have hr7 := (hr6.below hb).mono hb.size
  have hB7 := belStep hB6 hb
  clear hb hr6 hB6
  go_wp2_with fail
  refine (gCut_fit A c L 4 w7 hr7).mono ?_
  rintro e w8 ⟨v, o, rfl, hO, hV, hb⟩
  have hr8 := (hr7.below hb).mono hb.size
  have hB8 := belStep hB7 hb
  obtain ⟨X, cX, rfl, hX, _⟩ := hV
  have sX := H2.out o hO
  clear hb hr7 hB7 hO
  have HS8 : Hid (Calls Try.prog 32 #[.slice X o.size cX, .slice (some ⟨w8.heap.size, 0, none⟩) 2 2] _ _) := Lib.hid (r4Same_b X (some ⟨w8.heap.size, 0, none⟩) cX 2 o #[(5, 5), (9, 9)] (w8.alloc (.cells #[.int .i64 5, .int .i64 5, .int .i64 9, .int .i64 9] 42)) ((hX.alloc (Nat.le_refl _) _).mono (by simp)) (RdK.lit w8 [(5, 5), (9, 9)] _ rfl _) (by decide))
  go_wp2_with fail
  refine HS8.out.mono ?_
  rintro e w9 ⟨rfl, hb⟩
  have hr9 := (hr8.below (belStep (bel1 _ _) hb)).mono (belStep (bel1 _ _) hb).size
  have hB9 := belStep (belAlloc hB8 _) hb
  clear hb HS8 hr8 hB8
  clear hX
  go_wp2_with fail
  refine (gLess_fit A c L (2, 3) w9 hr9).mono ?_
  rintro e w10 ⟨v, o, rfl, hO, hV, hb⟩
  have hr10 := (hr9.below hb).mono hb.size
  have hB10 := belStep hB9 hb
  obtain ⟨Y, cY, rfl, hY, _⟩ := hV
  have sY := H3.out o hO
  clear hb hr9 hB9 hO
  have HS10 : Hid (Calls Try.prog 32 #[.slice Y o.size cY, .slice (some ⟨w10.heap.size, 0, none⟩) 3 3] _ _) := Lib.hid (r4Same_b Y (some ⟨w10.heap.size, 0, none⟩) cY 3 o #[(1, 1), (4, 5), (9, 9)] (w10.alloc (.cells #[.int .i64 1, .int .i64 1, .int .i64 4, .int .i64 5, .int .i64 9, .int .i64 9] 42)) ((hY.alloc (Nat.le_refl _) _).mono (by simp)) (RdK.lit w10 [(1, 1), (4, 5), (9, 9)] _ rfl _) (by decide))
  go_wp2_with fail
  refine HS10.out.mono ?_
  rintro e w11 ⟨rfl, hb⟩
  have hr11 := (hr10.below (belStep (bel1 _ _) hb)).mono (belStep (bel1 _ _) hb).size
  have hB11 := belStep (belAlloc hB10 _) hb
  clear hb HS10 hr10 hB10
  clear hY
  go_wp2_with fail
  refine (gGaps_fit A c L (4, 10) w11 hr11).mono ?_
  rintro e w12 ⟨v, o, rfl, hO, hV, hb⟩
  have hr12 := (hr11.below hb).mono hb.size
  have hB12 := belStep hB11 hb
  obtain ⟨Z, cZ, rfl, hZ, _⟩ := hV
  have sZ := H4.out o hO
  clear hb hr11 hB11 hO
  have HS12 : Hid (Calls Try.prog 32 #[.slice Z o.size cZ, .slice (some ⟨w12.heap.size, 0, none⟩) 2 2] _ _) := Lib.hid (r4Same_b Z (some ⟨w12.heap.size, 0, none⟩) cZ 2 o #[(6, 8), (10, 10)] (w12.alloc (.cells #[.int .i64 6, .int .i64 8, .int .i64 10, .int .i64 10] 42)) ((hZ.alloc (Nat.le_refl _) _).mono (by simp)) (RdK.lit w12 [(6, 8), (10, 10)] _ rfl _) (by decide))
  go_wp2_with fail
  refine HS12.out.mono ?_
  rintro e w13 ⟨rfl, hb⟩
  have hr13 := (hr12.below (belStep (bel1 _ _) hb)).mono (belStep (bel1 _ _) hb).size
  have hB13 := belStep (belAlloc hB12 _) hb
  clear hb HS12 hr12 hB12
  clear hZ
  go_wp2_with fail
  refine (gCheck_any A c L w13 hr13).mono ?_
  rintro e w14 ⟨rfl, hb⟩
  have hr14 := (hr13.below hb).mono hb.size
  have hB14 := belStep hB13 hb
  clear hb hr13 hB13
  have HC : Hid (Calls Try.prog 24 #[.slice (some ⟨w14.heap.size, 0, none⟩) 1 1] _ _) := Lib.hid (gCheck_any (some ⟨w14.heap.size, 0, none⟩) 1 #[(2, 1)] (w14.alloc (.cells #[.int .i64 2, .int .i64 1] 42)) (RdK.lit w14 [(2, 1)] _ rfl _))
  go_wp2_with fail
  refine HC.out.mono ?_
  rintro e w15 ⟨rfl, hb⟩
  go_wp2
  go_ret
  exact ⟨rfl, belStep (belAlloc hB14 _) hb⟩
end Go.Proofs.Ytpnjodefnpphkaa
