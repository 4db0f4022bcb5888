/- The law RangesPrefix returns true for every input, and changes nothing that lay there. No condition. -/
import Derived.Test.YtpnjodefnpphkaaOpenR
import Derived.Test.YtpnjodefnpphkaaRangesS
import Derived.Deep.RegionHeld3
import Derived.Deep.DrawnRows
namespace Go.Proofs.Ytpnjodefnpphkaa.rangesPrefix
open Go.ChangeShapes Go.WideShapes Go.ChangeAt Go.RowKit Go.Deep Go.Sort

attribute [local go_sem ↓] Go.wp_at_zero Go.wp_at_succ
theorem rdz {W w : World} {A : Option Addr} {d : Array (Int × Int)} (h : RdK encR 2 W.heap.size W A d) (hb : Below W.heap.size W w) : RdK encR 2 w.heap.size w A d := (h.below hb).mono hb.size
theorem none_in {p : Int → Bool} {s : Array (Int × Int)} (h : IsN p s) (hp : ∀ n, p n = false) : s = #[] :=
  (h.congr hp).uniq ⟨⟨by simp, by simp⟩, fun _ => rfl⟩
theorem has_set {d : Array (Int × Int)} (h : setE d = 0) (n : Int) : hasB d n = inR d n := by unfold hasB; rw [h]; simp
theorem in_yes {r : Int × Int} {x : Int} (h1 : r.1 ≤ x) (h2 : x ≤ r.2) : inB x r = true := inB_iff.2 ⟨h1, h2⟩
theorem in_no {r : Int × Int} {x : Int} (h : ¬ (r.1 ≤ x ∧ x ≤ r.2)) : inB x r = false := by rw [Bool.eq_false_iff]; intro h'; exact h (inB_iff.1 h')
set_option maxRecDepth 100000 in
set_option maxHeartbeats 16000000 in
theorem walk (A : Option Addr) (c : Nat) (d : Array (Int × Int)) (b : Int) (r : Int × Int) (w : World) (h1 : RdK encR 2 w.heap.size w A d) (_n1 : A = none → c = 0) :
    Calls Try.prog 9 #[.slice A d.size c, .int .i64 b, .agg #[.int .i64 r.1, .int .i64 r.2]] w fun e w' => e = .returned (.bool true) ∧ Below w.heap.size w w' := by
  have y0 : (w.alloc (.cells #[.int .i64 r.1, .int .i64 r.2] 42)).cell? ⟨w.heap.size, 0, none⟩ = some (.int .i64 r.1) := cell_new w #[.int .i64 r.1, .int .i64 r.2] _ 0
  have y1 : (w.alloc (.cells #[.int .i64 r.1, .int .i64 r.2] 42)).cell? ⟨w.heap.size, 1, none⟩ = some (.int .i64 r.2) := cell_new w #[.int .i64 r.1, .int .i64 r.2] _ 1
  have hg : w.heap.size < (w.alloc (.cells #[.int .i64 r.1, .int .i64 r.2] 42)).heap.size := by simp
  have p1 := (h1.alloc (Nat.le_refl _) (.cells #[.int .i64 r.1, .int .i64 r.2] 42)).mono (Nat.le_of_lt hg)
  have HB0 := Lib.hid (bel1 w (.cells #[.int .i64 r.1, .int .i64 r.2] 42))
  clear h1
  by_cases hd : 200 < d.size
  · have hz : (200 : Int) < (d.size : Int) := by omega
    go_enter Try.func9, Try.ntmps9
    go_wp2_with fail
    refine (aw4_any _).mono ?_
    rintro e w3 ⟨rfl, hb3⟩
    go_wp2
    go_ret
    exact ⟨rfl, belStep HB0.out hb3⟩
  have hz : decide ((200 : Int) < (d.size : Int)) = false := by simp; omega
  have hd' : d.size ≤ 200 := by omega
  clear hd
  by_cases hs : setE d = 0
  case neg =>
    have hq : (setE d != 0) = true := by simpa using hs
    clear hs
    go_enter Try.func9, Try.ntmps9
    go_wp2_with fail
    refine (gCheck_any _ _ d _ p1).mono ?_
    rintro e w1 ⟨rfl, hB1⟩
    go_wp2_with fail
    refine (aw4_any _).mono ?_
    rintro e w3 ⟨rfl, hb3⟩
    go_wp2
    go_ret
    exact ⟨rfl, belStep (belStep HB0.out hB1) hb3⟩
  have hq : (setE d != 0) = false := by simp [hs]
  have HS := Lib.hid hs
  clear hs
  by_cases hb0 : b < 0 ∨ 1000000 ≤ b
  · rcases hb0 with hb0 | hb0
    all_goals
      go_enter Try.func9, Try.ntmps9
      go_wp2_with fail
      refine (gCheck_any _ _ d _ p1).mono ?_
      rintro e w1 ⟨rfl, hB1⟩
      go_wp2_with (go_at_call 23; (with_reducible refine (aw4_any _).mono ?_); rintro e w3 ⟨rfl, hb3⟩)
      all_goals
        go_ret
        exact ⟨rfl, belStep (belStep HB0.out hB1) hb3⟩
  have b1 : 0 ≤ b := by omega
  have b2 : b < 1000000 := by omega
  have b1' : decide (b < 0) = false := by simp; omega
  have b2' : decide (1000000 ≤ b) = false := by simp; omega
  clear hb0
  go_enter Try.func9, Try.ntmps9
  go_wp2_with fail
  generalize w.alloc (.cells #[.int .i64 r.1, .int .i64 r.2] 42) = W at y0 y1 hg p1 HB0 ⊢
  refine (gCheck_any _ _ d _ p1).mono ?_
  rintro e w1 ⟨rfl, hB⟩
  have q1 := rdz p1 hB
  go_wp2_with fail
  refine (gPrefix_any _ _ d b _ q1).mono ?_
  rintro e w2 ⟨rfl, hb⟩
  have q1 := rdz q1 hb
  have hB := belStep hB hb
  clear hb
  have HP := Lib.hid (pre_has HS.out b)
  generalize preE d b = P at HP ⊢
  have P1 := HP.out.1
  have P2 : P ≤ 1000000 := by have := HP.out.2.1; omega
  have P3 : decide (P < b) = false := by simp; omega
  have P4 : hasB d (P + 1) = false := by rw [has_set HS.out]; exact HP.out.2.2.2
  go_wp2_with fail
  refine (gHas_any _ _ d (P + 1) _ q1).mono ?_
  rintro e w3 ⟨rfl, hb⟩
  have q1 := rdz q1 hb
  have hB := belStep hB hb
  clear hb
  go_wp2_with fail
  refine (gGaps_few A c d (b + 1, P) _ q1 HS.out (by omega)).mono ?_
  rintro e w4 ⟨v4, o4, rfl, hO, _, hV, hb⟩
  have e4 : o4 = #[] := none_in hO (fun n => by
    unfold pGaps
    cases hc : (may1 n && (inB n (b + 1, P) && !inR d n))
    · rfl
    · rw [Bool.and_eq_true, Bool.and_eq_true, inB_iff] at hc
      have h2 := hc.2.1
      simp only at h2
      rw [HP.out.2.2.1 n (by omega) h2.2] at hc
      simp at hc)
  subst e4
  obtain ⟨X4, k4, rfl, _, _⟩ := hV
  have q1 := rdz q1 hb
  have hB := belStep hB hb
  clear hb hO
  by_cases hlt : P < 1000000
  · have HA : Hid (Calls Try.prog 35 #[.slice A d.size c, .slice (some ⟨w4.heap.size, 0, none⟩) 1 1] _ _) := Lib.hid (gAdd_few A c d (some ⟨w4.heap.size, 0, none⟩) 1 #[(P + 1, P + 1)] (w4.alloc (.cells #[.int .i64 (P + 1), .int .i64 (P + 1)] 42)) ((q1.alloc (Nat.le_refl _) _).mono (by simp)) (RdK.lit w4 [(P + 1, P + 1)] _ rfl _) HS.out (by simp; omega))
    go_wp2_with fail
    refine HA.out.mono ?_
    rintro e w5 ⟨v5, o5, rfl, hO, hs5, hV, hb⟩
    obtain ⟨X5, k5, rfl, q5, _⟩ := hV
    have hs5' : o5.size ≤ 1000 := by simp at hs5; omega
    have H5 : Hid (P + 1 ≤ preE o5 b) := pre_ge (hO.set hs5') (fun n h1 h2 => by
      rw [hO.2 n]
      unfold pAdd
      rw [Bool.and_eq_true, Bool.or_eq_true, may1_iff]
      refine ⟨by omega, ?_⟩
      rcases Int.lt_or_le P n with h | h
      · right; rw [inR_one]; exact in_yes (by simp only; omega) (by simp only; omega)
      · left; exact HP.out.2.2.1 n h1 h)
    have q1 := rdz q1 (belStep (bel1 _ _) hb)
    have hB := belStep (belAlloc hB _) hb
    clear hb hO HA
    go_wp2_with fail
    refine (gPrefix_any X5 k5 o5 b _ q5).mono ?_
    rintro e w6 ⟨rfl, hb⟩
    have h5 : decide (preE o5 b ≤ P) = false := by have := H5.out; simp; omega
    have q1 := rdz q1 hb
    have hB := belStep hB hb
    clear hb q5 H5
    go_wp2_with fail
    have zb := hB
    have z0 := (hB.cell (p := ⟨w.heap.size, 0, none⟩) hg).trans y0
    have z1 := (hB.cell (p := ⟨w.heap.size, 1, none⟩) hg).trans y1
    go_region_held3 (fun w' => w'.cell? ⟨w.heap.size, 0, none⟩ = some (.int .i64 r.1) ∧ w'.cell? ⟨w.heap.size, 1, none⟩ = some (.int .i64 r.2)) (first | exact ⟨z0, z1⟩)
      (first
        | (go_at_call 37; (with_reducible refine (gLess_few A c d r _ (rdz p1 (by first | exact zb | exact zb.drew)) HS.out (by omega)).mono ?_); rintro e w7 ⟨v7, o7, rfl, hO7, hs7, hV7, hb⟩; have zb : Below W.heap.size W w7 := belStep (by first | exact zb | exact zb.drew) hb; have z0 := (zb.cell (p := ⟨w.heap.size, 0, none⟩) hg).trans y0; have z1 := (zb.cell (p := ⟨w.heap.size, 1, none⟩) hg).trans y1)
        | (go_at_call 33; (with_reducible refine (gGaps_few A c d r _ (rdz p1 (by first | exact zb | exact zb.drew)) HS.out (by omega)).mono ?_); rintro e w8 ⟨v8, o8, rfl, hO8, hs8, hV8, hb⟩; have hV7 := hV7.below hb; obtain ⟨X7, k7, rfl, q7, _⟩ := hV7; obtain ⟨X8, k8, rfl, q8, _⟩ := hV8; have zb : Below W.heap.size W w8 := belStep (by first | exact zb | exact zb.drew) hb; have z0 := (zb.cell (p := ⟨w.heap.size, 0, none⟩) hg).trans y0; have z1 := (zb.cell (p := ⟨w.heap.size, 1, none⟩) hg).trans y1))
    have HL := Lib.hid (hO7.has hs7)
    have HG := Lib.hid (hO8.has hs8)
    have HC : Hid (cntE o7 ≤ cntE d) := cnt_le (hO7.set hs7) HS.out (fun n h => by rw [hO7.2 n] at h; unfold pLess at h; exact (Bool.and_eq_true _ _ ▸ h).1)
    have q1 := rdz p1 zb
    have hB8 : Below W.heap.size W w8 := zb
    clear hO7 hO8 z0 z1 zb
    go_wp2
    go_loopw [10] (fun i wr => ∃ k : Nat, k ≤ 3 ∧ i = .int .i64 k ∧ Below w8.heap.size w8 wr) (fun i _ => 3 - (intOf i).toNat)
    case atStart => exact ⟨0, by omega, rfl, Below.refl _ _⟩
    case round =>
      obtain ⟨k, hk, rfl, hbr⟩ := hrel
      have hBr := belStep hB8 hbr
      have z0 := (hBr.cell (p := ⟨w.heap.size, 0, none⟩) hg).trans y0
      have z1 := (hBr.cell (p := ⟨w.heap.size, 1, none⟩) hg).trans y1
      have q1 := rdz q1 hbr
      have q7 := rdz q7 hbr
      have q8 := rdz q8 hbr
      by_cases hlt3 : k < 3
      · have kz : (k : Int) < 3 := by omega
        by_cases hm : 1 ≤ P + (k : Int) ∧ P + (k : Int) ≤ 1000000
        · have m1 := hm.1
          have m2 := hm.2
          have hmm : may1 (P + k) = true := may1_iff.2 hm
          have F1 := HL.out (P + k)
          have F2 := HG.out (P + k)
          have F3 := has_set HS.out (P + k)
          unfold pLess at F1
          unfold pGaps at F2
          rw [hmm] at F2
          clear hm hmm
          cases i1 : inR d (P + k)
          all_goals
            by_cases t1 : r.1 ≤ P + (k : Int)
            · by_cases t2 : P + (k : Int) ≤ r.2
              · rw [in_yes t1 t2, i1] at F1
                rw [in_yes t1 t2, i1] at F2
                rw [i1] at F3
                simp only [Bool.not_true, Bool.not_false, Bool.and_true, Bool.and_false] at F1 F2
                go_wp2_with (go_at_call 26; first
                  | ((with_reducible refine (gHas_any X7 k7 o7 (P + k) _ q7).mono ?_); rintro e wa ⟨rfl, hba⟩; have qa := rdz q1 hba; have qg := rdz q8 hba; have hbr := belStep hbr hba)
                  | ((with_reducible refine (gHas_any A c d (P + k) _ qa).mono ?_); rintro e wb ⟨rfl, hbb⟩; have qa := rdz qa hbb; have qg := rdz qg hbb; have hbr := belStep hbr hbb)
                  | ((with_reducible refine (gHas_any X8 k8 o8 (P + k) _ qg).mono ?_); rintro e wc ⟨rfl, hbc⟩; have qa := rdz qa hbc; have qg := rdz qg hbc; have hbr := belStep hbr hbc))
                exact ⟨⟨k + 1, by omega, by go_num, hbr⟩, by simp [intOf]; omega⟩
              · rw [in_no (fun h => t2 h.2), i1] at F1
                rw [in_no (fun h => t2 h.2), i1] at F2
                rw [i1] at F3
                simp only [Bool.not_false, Bool.and_true, Bool.and_false, Bool.false_and] at F1 F2
                go_wp2_with (go_at_call 26; first
                  | ((with_reducible refine (gHas_any X7 k7 o7 (P + k) _ q7).mono ?_); rintro e wa ⟨rfl, hba⟩; have qa := rdz q1 hba; have qg := rdz q8 hba; have hbr := belStep hbr hba)
                  | ((with_reducible refine (gHas_any A c d (P + k) _ qa).mono ?_); rintro e wb ⟨rfl, hbb⟩; have qa := rdz qa hbb; have qg := rdz qg hbb; have hbr := belStep hbr hbb)
                  | ((with_reducible refine (gHas_any X8 k8 o8 (P + k) _ qg).mono ?_); rintro e wc ⟨rfl, hbc⟩; have qa := rdz qa hbc; have qg := rdz qg hbc; have hbr := belStep hbr hbc))
                exact ⟨⟨k + 1, by omega, by go_num, hbr⟩, by simp [intOf]; omega⟩
            · rw [in_no (fun h => t1 h.1), i1] at F1
              rw [in_no (fun h => t1 h.1), i1] at F2
              rw [i1] at F3
              simp only [Bool.not_false, Bool.and_true, Bool.and_false, Bool.false_and] at F1 F2
              go_wp2_with (go_at_call 26; first
                | ((with_reducible refine (gHas_any X7 k7 o7 (P + k) _ q7).mono ?_); rintro e wa ⟨rfl, hba⟩; have qa := rdz q1 hba; have qg := rdz q8 hba; have hbr := belStep hbr hba)
                | ((with_reducible refine (gHas_any A c d (P + k) _ qa).mono ?_); rintro e wb ⟨rfl, hbb⟩; have qa := rdz qa hbb; have qg := rdz qg hbb; have hbr := belStep hbr hbb)
                | ((with_reducible refine (gHas_any X8 k8 o8 (P + k) _ qg).mono ?_); rintro e wc ⟨rfl, hbc⟩; have qa := rdz qa hbc; have qg := rdz qg hbc; have hbr := belStep hbr hbc))
              exact ⟨⟨k + 1, by omega, by go_num, hbr⟩, by simp [intOf]; omega⟩
        · by_cases m1 : 1 ≤ P + (k : Int)
          · have m2 : decide (P + (k : Int) ≤ 1000000) = false := by simp; omega
            clear hm
            go_wp2
            all_goals exact ⟨⟨k + 1, by omega, by go_num, hbr⟩, by simp [intOf]; omega⟩
          · have m1' : decide (1 ≤ P + (k : Int)) = false := by simp; omega
            clear hm
            go_wp2
            all_goals exact ⟨⟨k + 1, by omega, by go_num, hbr⟩, by simp [intOf]; omega⟩
      · have hz3 : decide ((k : Int) < 3) = false := by simp; omega
        have hcc := HC.out
        go_wp2_with fail
        refine (gCount_any X7 k7 o7 _ q7 (by omega)).mono ?_
        rintro e wA ⟨rfl, hbA⟩
        have q1 := rdz q1 hbA
        go_wp2_with fail
        refine (gCount_any A c d _ q1 (by omega)).mono ?_
        rintro e wB ⟨rfl, hbB⟩
        go_wp2_with fail
        refine (aw4_any _).mono ?_
        rintro e wC ⟨rfl, hbC⟩
        go_wp2
        go_ret
        exact ⟨rfl, belStep (belStep (belStep (belStep HB0.out hBr) hbA) hbB) hbC⟩
  · have hlt' : decide (P < 1000000) = false := by simp; omega
    go_wp2_with fail
    clear hlt hlt'
    have zb := hB
    have z0 := (hB.cell (p := ⟨w.heap.size, 0, none⟩) hg).trans y0
    have z1 := (hB.cell (p := ⟨w.heap.size, 1, none⟩) hg).trans y1
    go_region_held3 (fun w' => w'.cell? ⟨w.heap.size, 0, none⟩ = some (.int .i64 r.1) ∧ w'.cell? ⟨w.heap.size, 1, none⟩ = some (.int .i64 r.2)) (first | exact ⟨z0, z1⟩)
      (first
        | (go_at_call 37; (with_reducible refine (gLess_few A c d r _ (rdz p1 (by first | exact zb | exact zb.drew)) HS.out (by omega)).mono ?_); rintro e w7 ⟨v7, o7, rfl, hO7, hs7, hV7, hb⟩; have zb : Below W.heap.size W w7 := belStep (by first | exact zb | exact zb.drew) hb; have z0 := (zb.cell (p := ⟨w.heap.size, 0, none⟩) hg).trans y0; have z1 := (zb.cell (p := ⟨w.heap.size, 1, none⟩) hg).trans y1)
        | (go_at_call 33; (with_reducible refine (gGaps_few A c d r _ (rdz p1 (by first | exact zb | exact zb.drew)) HS.out (by omega)).mono ?_); rintro e w8 ⟨v8, o8, rfl, hO8, hs8, hV8, hb⟩; have hV7 := hV7.below hb; obtain ⟨X7, k7, rfl, q7, _⟩ := hV7; obtain ⟨X8, k8, rfl, q8, _⟩ := hV8; have zb : Below W.heap.size W w8 := belStep (by first | exact zb | exact zb.drew) hb; have z0 := (zb.cell (p := ⟨w.heap.size, 0, none⟩) hg).trans y0; have z1 := (zb.cell (p := ⟨w.heap.size, 1, none⟩) hg).trans y1))
    have HL := Lib.hid (hO7.has hs7)
    have HG := Lib.hid (hO8.has hs8)
    have HC : Hid (cntE o7 ≤ cntE d) := cnt_le (hO7.set hs7) HS.out (fun n h => by rw [hO7.2 n] at h; unfold pLess at h; exact (Bool.and_eq_true _ _ ▸ h).1)
    have q1 := rdz p1 zb
    have hB8 : Below W.heap.size W w8 := zb
    clear hO7 hO8 z0 z1 zb
    go_wp2
    go_loopw [10] (fun i wr => ∃ k : Nat, k ≤ 3 ∧ i = .int .i64 k ∧ Below w8.heap.size w8 wr) (fun i _ => 3 - (intOf i).toNat)
    case atStart => exact ⟨0, by omega, rfl, Below.refl _ _⟩
    case round =>
      obtain ⟨k, hk, rfl, hbr⟩ := hrel
      have hBr := belStep hB8 hbr
      have z0 := (hBr.cell (p := ⟨w.heap.size, 0, none⟩) hg).trans y0
      have z1 := (hBr.cell (p := ⟨w.heap.size, 1, none⟩) hg).trans y1
      have q1 := rdz q1 hbr
      have q7 := rdz q7 hbr
      have q8 := rdz q8 hbr
      by_cases hlt3 : k < 3
      · have kz : (k : Int) < 3 := by omega
        by_cases hm : 1 ≤ P + (k : Int) ∧ P + (k : Int) ≤ 1000000
        · have m1 := hm.1
          have m2 := hm.2
          have hmm : may1 (P + k) = true := may1_iff.2 hm
          have F1 := HL.out (P + k)
          have F2 := HG.out (P + k)
          have F3 := has_set HS.out (P + k)
          unfold pLess at F1
          unfold pGaps at F2
          rw [hmm] at F2
          clear hm hmm
          cases i1 : inR d (P + k)
          all_goals
            by_cases t1 : r.1 ≤ P + (k : Int)
            · by_cases t2 : P + (k : Int) ≤ r.2
              · rw [in_yes t1 t2, i1] at F1
                rw [in_yes t1 t2, i1] at F2
                rw [i1] at F3
                simp only [Bool.not_true, Bool.not_false, Bool.and_true, Bool.and_false] at F1 F2
                go_wp2_with (go_at_call 26; first
                  | ((with_reducible refine (gHas_any X7 k7 o7 (P + k) _ q7).mono ?_); rintro e wa ⟨rfl, hba⟩; have qa := rdz q1 hba; have qg := rdz q8 hba; have hbr := belStep hbr hba)
                  | ((with_reducible refine (gHas_any A c d (P + k) _ qa).mono ?_); rintro e wb ⟨rfl, hbb⟩; have qa := rdz qa hbb; have qg := rdz qg hbb; have hbr := belStep hbr hbb)
                  | ((with_reducible refine (gHas_any X8 k8 o8 (P + k) _ qg).mono ?_); rintro e wc ⟨rfl, hbc⟩; have qa := rdz qa hbc; have qg := rdz qg hbc; have hbr := belStep hbr hbc))
                exact ⟨⟨k + 1, by omega, by go_num, hbr⟩, by simp [intOf]; omega⟩
              · rw [in_no (fun h => t2 h.2), i1] at F1
                rw [in_no (fun h => t2 h.2), i1] at F2
                rw [i1] at F3
                simp only [Bool.not_false, Bool.and_true, Bool.and_false, Bool.false_and] at F1 F2
                go_wp2_with (go_at_call 26; first
                  | ((with_reducible refine (gHas_any X7 k7 o7 (P + k) _ q7).mono ?_); rintro e wa ⟨rfl, hba⟩; have qa := rdz q1 hba; have qg := rdz q8 hba; have hbr := belStep hbr hba)
                  | ((with_reducible refine (gHas_any A c d (P + k) _ qa).mono ?_); rintro e wb ⟨rfl, hbb⟩; have qa := rdz qa hbb; have qg := rdz qg hbb; have hbr := belStep hbr hbb)
                  | ((with_reducible refine (gHas_any X8 k8 o8 (P + k) _ qg).mono ?_); rintro e wc ⟨rfl, hbc⟩; have qa := rdz qa hbc; have qg := rdz qg hbc; have hbr := belStep hbr hbc))
                exact ⟨⟨k + 1, by omega, by go_num, hbr⟩, by simp [intOf]; omega⟩
            · rw [in_no (fun h => t1 h.1), i1] at F1
              rw [in_no (fun h => t1 h.1), i1] at F2
              rw [i1] at F3
              simp only [Bool.not_false, Bool.and_true, Bool.and_false, Bool.false_and] at F1 F2
              go_wp2_with (go_at_call 26; first
                | ((with_reducible refine (gHas_any X7 k7 o7 (P + k) _ q7).mono ?_); rintro e wa ⟨rfl, hba⟩; have qa := rdz q1 hba; have qg := rdz q8 hba; have hbr := belStep hbr hba)
                | ((with_reducible refine (gHas_any A c d (P + k) _ qa).mono ?_); rintro e wb ⟨rfl, hbb⟩; have qa := rdz qa hbb; have qg := rdz qg hbb; have hbr := belStep hbr hbb)
                | ((with_reducible refine (gHas_any X8 k8 o8 (P + k) _ qg).mono ?_); rintro e wc ⟨rfl, hbc⟩; have qa := rdz qa hbc; have qg := rdz qg hbc; have hbr := belStep hbr hbc))
              exact ⟨⟨k + 1, by omega, by go_num, hbr⟩, by simp [intOf]; omega⟩
        · by_cases m1 : 1 ≤ P + (k : Int)
          · have m2 : decide (P + (k : Int) ≤ 1000000) = false := by simp; omega
            clear hm
            go_wp2
            all_goals exact ⟨⟨k + 1, by omega, by go_num, hbr⟩, by simp [intOf]; omega⟩
          · have m1' : decide (1 ≤ P + (k : Int)) = false := by simp; omega
            clear hm
            go_wp2
            all_goals exact ⟨⟨k + 1, by omega, by go_num, hbr⟩, by simp [intOf]; omega⟩
      · have hz3 : decide ((k : Int) < 3) = false := by simp; omega
        have hcc := HC.out
        go_wp2_with fail
        refine (gCount_any X7 k7 o7 _ q7 (by omega)).mono ?_
        rintro e wA ⟨rfl, hbA⟩
        have q1 := rdz q1 hbA
        go_wp2_with fail
        refine (gCount_any A c d _ q1 (by omega)).mono ?_
        rintro e wB ⟨rfl, hbB⟩
        go_wp2_with fail
        refine (aw4_any _).mono ?_
        rintro e wC ⟨rfl, hbC⟩
        go_wp2
        go_ret
        exact ⟨rfl, belStep (belStep (belStep (belStep HB0.out hBr) hbA) hbB) hbC⟩

set_option maxRecDepth 100000 in
theorem lifted (os : Os) (started : os.Started) (H : Type) (enc : TypeId × Value → H) :
    ReturnsInHanded {} Try.checked os 9 .any (Rows.rangesPrefixSpec.pre6 enc Try.prog Try.f9 Rows.rangesPrefixRow.domain false) (Rows.rangesPrefixSpec.post enc Try.prog Try.f9 false true false false) := by
  refine returnsInHanded_of_change_sized (C := Try.checked) own started (by kernel_rfl) Try.func9
    (ChangeSpec.witness6 (enc := enc) (C := Try.checked) false ⟨#[], #[.slice none 0 0, .int .i64 0, .agg #[.int .i64 0, .int .i64 0]], []⟩ 8 (by kernel_rfl) (by kernel_rfl) (by kernel_rfl) (by kernel_rfl)) ?_
  intro W base args ds gs before hval0 hW _ _ _
  have hval : ∀ (j : Nat) t v, Try.f9.params[j]? = some t → args[j]? = some v → Value.okWide Try.prog W .any base t v := hval0
  have hW' := hW
  obtain ⟨p, q, hA0, hV, rfl, _, _⟩ := hW
  have hA : DataW.TrodAll enc Try.prog W 0 (fun _ => true) true Try.f9.params.toList args.toList ds p := hA0
  rw [Try.params9] at hA hval
  obtain ⟨v0, v1, v2, d0, d1, d2, p0, p1, p2, rfl, rfl, rfl, h0, h1, h2⟩ := trodAll_three hA
  obtain ⟨rfl, rfl⟩ := trodVars_none hV
  obtain ⟨A0, c0, z0, rfl, r0, n0⟩ := open_rdR Try.underlying33 Try.underlying42 (by kernel_rfl) (by kernel_rfl) Try.underlying3 Try.underlying3 (hval 0 33 v0 rfl rfl) h0
  obtain ⟨a1, rfl, rfl, rfl, w1⟩ := open_int Try.underlying3 (hval 1 3 v1 rfl rfl) h1
  obtain ⟨y2, rfl⟩ := open_rng Try.underlying42 (by kernel_rfl) (by kernel_rfl) Try.underlying3 Try.underlying3 (hval 2 42 v2 rfl rfl) h2
  refine (walk A0 c0 z0 a1 y2 W r0 n0).mono fun e W' ⟨he, hb⟩ => ?_
  subst he
  exact ⟨_, rfl, law_post (tb := 4) laidOut (by decide +kernel) rfl hW' rfl rfl rfl rfl Try.underlying4 hb⟩

theorem over : Rows.rangesPrefixRow.holds Try.pinned (OpenSpec.ofChange Rows.rangesPrefixSpec) :=
  OpenClaim.holds_of_wide 9 Try.f9 rfl rfl rfl rfl rfl rfl rfl ⟨rfl, rfl, rfl, rfl, rfl⟩ rfl rfl rfl rfl rfl (by kernel_rfl) Try.func9 (by kernel_rfl)
    (of_decide_eq_true (by kernel_rfl)) (by unfold Func.isWrapper; first | (rw [if_pos (by decide +kernel)]; kernel_rfl) | (rw [if_neg (by decide +kernel)]; exact ⟨rfl, rfl⟩))
    (fun os started H enc _ => lifted os started H enc)
theorem proved : Rows.RangesPrefixSaid := over
#print axioms proved
end Go.Proofs.Ytpnjodefnpphkaa.rangesPrefix
