/- The law KnownHides returns true for every input, and changes nothing that lay there. No condition. -/
import Derived.Test.YtgpejfkmdenonaaGreatQKnQ
import Derived.Test.YtgpejfkmdenonaaGreatQOpA
namespace Go.Proofs.YtgpejfkmdenonaaGreat.knownHides
open Go.ChangeShapes Go.WideShapes Go.ChangeAt Go.RowKit Go.Deep Go.Sort

theorem blk_belD {W W' : World} {g : Nat} {o : Obj} (h : W.heap[g]? = some o) (hb : Below W.drew.heap.size W.drew W') : W'.heap[g]? = some o := (hb.block g (blk_lt h)).trans h
theorem kn_set {w : World} {s : KN} {v a b c : Value} {g : Nat} {T : TypeId} (h : KnV w v s) (h0 : s.ats.size = 0) (hg : w.heap[g]? = some (.cells #[.int .i64 0, .slice none 0 0, .slice none 0 0] T (0, 0))) : KnV (((w.setCell ⟨g, 0, none⟩ a).setCell ⟨g, 1, none⟩ b).setCell ⟨g, 2, none⟩ c) v s := by
  obtain ⟨A1, c1, A2, c2, e, h1, h2, n1, n2⟩ := h
  refine ⟨A1, c1, A2, c2, e, fun hp => ?_, fun hp => absurd hp (by omega), n1, n2⟩
  have q : ∀ b off, A1 = some ⟨b, off, none⟩ → b ≠ g := fun b off e hb => by
    obtain ⟨b', off', e', _, f⟩ := h1.at_ (i := 0) hp
    rw [e] at e'
    injection e' with e'
    injection e' with e1 e2
    subst e1 e2 hb
    have f0 := f 0 (by omega)
    have f1 := f 1 (by omega)
    simp only [Nat.zero_mul, Nat.add_zero, encR, List.getElem!_cons_zero, List.getElem!_cons_succ] at f0 f1
    obtain ⟨⟨z0, z1, z2⟩, _⟩ := blk3 hg
    match off, f0, f1 with
    | 0, f0, f1 => rw [z1] at f1; cases f1
    | 1, f0, f1 => rw [z1] at f0; cases f0
    | 2, f0, f1 => rw [z2] at f0; cases f0
    | n + 3, f0, f1 =>
      rw [cell_of_row w b (n + 3) _ _ (0, 0) hg] at f0
      simp at f0
  exact (((h1.far ⟨g, 0, none⟩ a q).far ⟨g, 1, none⟩ b q).far ⟨g, 2, none⟩ c q).mono (by simp) hp
theorem open_zero {W : World} {s : KN} {v : Value} (h : KnV W v s) (h0 : s.ats.size = 0) (ho : ∀ o2, OpenR s o2 → o2.size = 0) : Calls Tryz.prog 19 #[v] W fun e w' => (∃ A c, e = .returned (.slice A 0 c)) ∧ Below W.heap.size W w' := by
  refine (kOpen_any v s W h (by omega)).mono ?_
  rintro e w' ⟨⟨A, o, c, rfl, h1, _⟩, hb⟩
  exact ⟨⟨A, c, by rw [ho o h1]⟩, hb⟩
set_option maxRecDepth 100000
set_option maxHeartbeats 32000000 in
theorem walk (v : Value) (k : KN) (lo hi : Int) (A3 : Option Addr) (c3 : Nat) (atts : Array (Int × Int)) (t : Int) (w : World) (hk : KnV w v k) (h3 : RdK encA_I 2 w.heap.size w A3 atts) :
    Calls Tryz.prog 6 #[v, .agg #[.int .i64 lo, .int .i64 hi, .slice A3 atts.size c3], .int .i64 t] w fun e w' => e = .returned (.bool true) ∧ Below w.heap.size w w' := by
  have HFw := Lib.hid (fun W (hb : Below w.heap.size w W) => Few16_any v k W (hk.below hb))
  have HKV := Lib.hid hk
  have H3 := Lib.hid h3
  obtain ⟨base, rs, ats⟩ := k
  obtain ⟨A1, c1, A2, c2, rfl, _⟩ := hk
  have HK : Hid (∀ W, Below w.heap.size w W → KnV W (.agg #[.int .i64 base, .slice A1 rs.size c1, .slice A2 ats.size c2]) ⟨base, rs, ats⟩) := fun W hb => HKV.out.below hb
  have HT := Lib.hid (two_blk w (.cells #[.int .i64 base, .slice A1 rs.size c1, .slice A2 ats.size c2] 25) (.cells #[.int .i64 lo, .int .i64 hi, .slice A3 atts.size c3] 27))
  clear h3 HKV
  cases hf : fewK ⟨base, rs, ats⟩
  · rw [hf] at HFw
    clear hf
    go_enter Tryz.func6, Tryz.ntmps6
    go_wp2_with fail
    refine (HFw.out _ (belAlloc (bel1 w _) _)).mono ?_
    rintro e w1 ⟨rfl, hb1⟩
    have HB1 := Lib.hid (belStep (belAlloc (bel1 w _) _) hb1)
    clear hb1
    go_wp2_with fail
    refine (aw16_any _).mono ?_
    rintro e w9 ⟨rfl, hb9⟩
    go_wp2
    go_ret
    exact ⟨rfl, belStep HB1.out hb9⟩
  · obtain ⟨s1, s2⟩ := fewK_iff.1 hf
    simp only at s1 s2
    rw [hf] at HFw
    clear hf
    by_cases s3 : 100 < atts.size
    · have q3 : decide ((100 : Int) < (atts.size : Int)) = true := decide_eq_true (by omega)
      go_enter Tryz.func6, Tryz.ntmps6
      go_wp2_with fail
      refine (HFw.out _ (belAlloc (bel1 w _) _)).mono ?_
      rintro e w1 ⟨rfl, hb1⟩
      obtain ⟨⟨m0, m1, m2⟩, _⟩ := blk3 (blk_bel HT.out.2 hb1)
      have HB1 := Lib.hid (belStep (belAlloc (bel1 w _) _) hb1)
      clear hb1
      go_wp2_with fail
      refine (aw16_any _).mono ?_
      rintro e w9 ⟨rfl, hb9⟩
      go_wp2
      go_ret
      exact ⟨rfl, belStep HB1.out hb9⟩
    · have q3 : decide ((100 : Int) < (atts.size : Int)) = false := decide_eq_false (by omega)
      go_enter Tryz.func6, Tryz.ntmps6
      go_wp2_with fail
      refine (HFw.out _ (belAlloc (bel1 w _) _)).mono ?_
      rintro e w1 ⟨rfl, hb1⟩
      obtain ⟨⟨k0, k1, k2⟩, _⟩ := blk3 (blk_bel HT.out.1 hb1)
      obtain ⟨⟨m0, m1, m2⟩, _⟩ := blk3 (blk_bel HT.out.2 hb1)
      have HM1 := Lib.hid (blk_bel HT.out.2 hb1)
      have HB1 := Lib.hid (belStep (belAlloc (bel1 w _) _) hb1)
      have HAd := Lib.hid (kAdd_any (.agg #[.int .i64 base, .slice A1 rs.size c1, .slice A2 ats.size c2]) ⟨base, rs, ats⟩ lo hi atts A3 c3 w1 (HK.out _ HB1.out) ((H3.out.below HB1.out).mono HB1.out.size) (by simp only; omega) (by simp only; omega) (by omega))
      clear hb1 HT HFw
      go_wp2_with fail
      refine HAd.out.mono ?_
      rintro e w2 ⟨ho, hb2⟩
      have HM2 := Lib.hid (blk_bel HM1.out hb2)
      have HB2 := Lib.hid (belStep HB1.out hb2)
      clear hb2 HAd HM1 k0 k1 k2 m0 m1 m2
      rcases ho with ⟨_, rfl⟩ | ⟨hA, v2, r, rfl, hkr, hr, hrs⟩
      · skip
        go_wp2_with fail
        refine (aw16_any _).mono ?_
        rintro e w9 ⟨rfl, hb9⟩
        go_wp2
        go_ret
        exact ⟨rfl, belStep (belAlloc HB2.out _) hb9⟩
      · have hz : (⟨base, rs, ats⟩ : KN).ats.size + atts.size ≤ 400 := by simp only; omega
        have HOut : Hid (∀ x ∈ r.ats.toList, hasK r x.1 = false ∧ r.base < x.1) := fun x hx => hide_out hA hr hz hx
        obtain ⟨l, -, -, hfo⟩ := hr.ok hA hz
        have HCk : Hid (ChkP r) := hfo.chk
        have HIn : Hid (lo < t → t ≤ hi → r.ats.toList.any (fun x => x.1 == t) = false → hasK r t = true) := fun a1 a2 a3 => hide_in hA hr hz a1 a2 (any_no a3)
        have y1 : r.rs.size ≤ 500 := by simp only at hrs; omega
        have y2 : r.ats.size ≤ 250 := by
          have := allK_size ⟨base, rs, ats⟩ atts
          rw [hfo.eat]
          simp only at this
          omega
        have HKr := Lib.hid hkr
        obtain ⟨A4, c4, A5, c5, rfl, hr4, hr5, _⟩ := hkr
        have HR5 := Lib.hid hr5
        have HR : Hid (∀ W, Below w2.heap.size w2 W → KnV W (.agg #[.int .i64 r.base, .slice A4 r.rs.size c4, .slice A5 r.ats.size c5]) r) := fun W hb => HKr.out.below hb
        have HP : Hid ((w2.alloc (.cells #[.int .i64 r.base, .slice A4 r.rs.size c4, .slice A5 r.ats.size c5] 25)).heap[w2.heap.size]? = some (.cells #[.int .i64 r.base, .slice A4 r.rs.size c4, .slice A5 r.ats.size c5] 25 (0, 0))) := heap_alloc_new w2 _
        have HM3 : Hid ((w2.alloc (.cells #[.int .i64 r.base, .slice A4 r.rs.size c4, .slice A5 r.ats.size c5] 25)).heap[w.heap.size + 1]? = some (.cells #[.int .i64 lo, .int .i64 hi, .slice A3 atts.size c3] 27 (0, 0))) := blk_alloc HM2.out
        have HB3 : Hid (Below w2.heap.size w2 (w2.alloc (.cells #[.int .i64 r.base, .slice A4 r.rs.size c4, .slice A5 r.ats.size c5] 25))) := bel1 w2 _
        clear hA hr hrs hfo hr4 hr5 HKr hz HK H3 HM2
        go_wp2
        go_loopw [9, 10] (fun ov iv wr => ∃ j : Nat, iv = .int .i64 (j : Int) ∧ ov = .bool ((r.ats.toList.take j).any fun x => x.1 == t) ∧ j ≤ r.ats.size ∧ Below (w2.alloc (.cells #[.int .i64 r.base, .slice A4 r.rs.size c4, .slice A5 r.ats.size c5] 25)).heap.size (w2.alloc (.cells #[.int .i64 r.base, .slice A4 r.rs.size c4, .slice A5 r.ats.size c5] 25)) wr) (fun _ i _ => r.ats.size - (intOf i).toNat)
        case atStart => exact ⟨0, rfl, rfl, Nat.zero_le _, Below.refl _ _⟩
        case round =>
          obtain ⟨j, rfl, rfl, hj, hB⟩ := hrel
          have HB := Lib.hid hB
          clear hB
          obtain ⟨⟨p0, p1, p2⟩, _⟩ := blk3 (blk_bel HP.out HB.out)
          have hpl := blk_lt (blk_bel HP.out HB.out)
          by_cases hlt : j < r.ats.size
          · have jz : (j : Int) < (r.ats.size : Int) := by omega
            obtain ⟨b, off, rfl, hbl, f⟩ := (HR5.out.below (belStep HB3.out HB.out)).at_ hlt
            have e0 := f 0 (by omega)
            have e1 := f 1 (by omega)
            have HOa := Lib.hid (take_any r.ats (fun x => x.1 == t) hlt)
            have hmem : r.ats[j]! ∈ r.ats.toList := by rw [getElem!_pos r.ats j hlt]; simp
            obtain ⟨x, hx⟩ : ∃ x, r.ats[j]! = x := ⟨_, rfl⟩
            rw [hx] at e0 e1 HOa hmem
            simp only [Nat.add_zero, encA_I, List.getElem!_cons_zero, List.getElem!_cons_succ] at e0 e1
            obtain ⟨o1, o2⟩ := HOut.out x hmem
            have HMem := Lib.hid hmem
            have o2' : decide (x.1 ≤ r.base) = false := decide_eq_false (by omega)
            have HH1 : Hid (∀ W, Below (wr.alloc (.cells #[.int .i64 x.1, .int .i64 x.2] 50)).heap.size (wr.alloc (.cells #[.int .i64 x.1, .int .i64 x.2] 50)) W → Calls Tryz.prog 14 #[.agg #[.int .i64 r.base, .slice A4 r.rs.size c4, .slice (some ⟨b, off, none⟩) r.ats.size c5], .int .i64 x.1] W fun e w' => e = .returned (.bool false) ∧ Below W.heap.size W w') := fun W hb => by
              have := kHas_any (.agg #[.int .i64 r.base, .slice A4 r.rs.size c4, .slice (some ⟨b, off, none⟩) r.ats.size c5]) r x.1 W (HR.out _ (belStep HB3.out (belStep HB.out (belStep (bel1 wr _) hb))))
              rwa [o1] at this
            have HSt : Hid (∀ W, Below (wr.alloc (.cells #[.int .i64 x.1, .int .i64 x.2] 50)).heap.size (wr.alloc (.cells #[.int .i64 x.1, .int .i64 x.2] 50)) W → Calls Tryz.prog 16 #[.agg #[.int .i64 r.base, .slice A4 r.rs.size c4, .slice (some ⟨b, off, none⟩) r.ats.size c5], .slice (some ⟨W.heap.size, 0, none⟩) 1 1] (W.alloc (.cells #[.int .i64 x.2] 3)) fun e w' => ∃ A6 c6 A7 c7 s, e = .returned (.agg #[.int .i64 s.base, .slice A6 s.rs.size c6, .slice A7 s.ats.size c7]) ∧ KnV w' (.agg #[.int .i64 s.base, .slice A6 s.rs.size c6, .slice A7 s.ats.size c7]) s ∧ hasK s x.1 = true ∧ Below (W.alloc (.cells #[.int .i64 x.2] 3)).heap.size (W.alloc (.cells #[.int .i64 x.2] 3)) w') := fun W hb => by
              refine (kSettle_any (.agg #[.int .i64 r.base, .slice A4 r.rs.size c4, .slice (some ⟨b, off, none⟩) r.ats.size c5]) r #[x.2] (some ⟨W.heap.size, 0, none⟩) 1 (W.alloc (.cells #[.int .i64 x.2] 3)) (HR.out _ (belAlloc (belStep HB3.out (belStep HB.out (belStep (bel1 wr _) hb))) _)) (RdI_R.lit_K W #[x.2] _ _ (by simp [encI_R])) y1 (by simp)).mono ?_
              rintro e w' ⟨ho, hb'⟩
              rcases ho with ⟨hc, _⟩ | ⟨_, v', s, rfl, hks, hs, _⟩
              · rw [chk_iff.2 HCk.out] at hc; cases hc
              · have hks' := hks
                obtain ⟨A6, c6, A7, c7, rfl, _⟩ := hks'
                exact ⟨A6, c6, A7, c7, s, rfl, hks, set_has HCk.out hs HMem.out (by simp), hb'⟩
            have HH2 : Hid (∀ s u W, KnV W u s → hasK s x.1 = true → Calls Tryz.prog 14 #[u, .int .i64 x.1] W fun e w' => e = .returned (.bool true) ∧ Below W.heap.size W w') := fun s u W hu hh => by
              have := kHas_any u s x.1 W hu
              rwa [hh] at this
            have KS : Hid (∀ W, Below (wr.alloc (.cells #[.int .i64 x.1, .int .i64 x.2] 50)).heap.size (wr.alloc (.cells #[.int .i64 x.1, .int .i64 x.2] 50)) W → (W.cell? ⟨w2.heap.size, 0, none⟩ = some (.int .i64 r.base) ∧ W.cell? ⟨w2.heap.size, 1, none⟩ = some (.slice A4 r.rs.size c4) ∧ W.cell? ⟨w2.heap.size, 2, none⟩ = some (.slice (some ⟨b, off, none⟩) r.ats.size c5) ∧ W.cell? ⟨wr.heap.size, 0, none⟩ = some (.int .i64 x.1) ∧ W.cell? ⟨wr.heap.size, 1, none⟩ = some (.int .i64 x.2))) := fun W hb => by
              obtain ⟨⟨a0, a1, a2⟩, _⟩ := blk3 (blk_bel (blk_alloc (blk_bel HP.out HB.out)) hb)
              exact ⟨a0, a1, a2, (hb.cell (p := ⟨wr.heap.size, 0, none⟩) (by simp)).trans (cell_new wr _ _ 0), (hb.cell (p := ⟨wr.heap.size, 1, none⟩) (by simp)).trans (cell_new wr _ _ 1)⟩
            have hb0 : Below (wr.alloc (.cells #[.int .i64 x.1, .int .i64 x.2] 50)).heap.size (wr.alloc (.cells #[.int .i64 x.1, .int .i64 x.2] 50)) (wr.alloc (.cells #[.int .i64 x.1, .int .i64 x.2] 50)) := Below.refl _ _
            clear f hx o1 o2 hmem
            go_wp2_with fail
            go_region_held3 (fun W => (W.cell? ⟨w2.heap.size, 0, none⟩ = some (.int .i64 r.base) ∧ W.cell? ⟨w2.heap.size, 1, none⟩ = some (.slice A4 r.rs.size c4) ∧ W.cell? ⟨w2.heap.size, 2, none⟩ = some (.slice (some ⟨b, off, none⟩) r.ats.size c5) ∧ W.cell? ⟨wr.heap.size, 0, none⟩ = some (.int .i64 x.1) ∧ W.cell? ⟨wr.heap.size, 1, none⟩ = some (.int .i64 x.2))) (first | exact KS.out _ (by with_reducible assumption) | exact KS.out _ (Below.drew (by with_reducible assumption)) | exact KS.out _ (belAlloc (by with_reducible assumption) _) | go_keep)
              (first
                | (go_at_call 14; ((with_reducible refine (HH1.out _ (by first | with_reducible assumption | exact Below.drew (by with_reducible assumption))).mono ?_); rintro e wa ⟨rfl, hba⟩; have hbA : Below (wr.alloc (.cells #[.int .i64 x.1, .int .i64 x.2] 50)).heap.size (wr.alloc (.cells #[.int .i64 x.1, .int .i64 x.2] 50)) wa := belStep (by first | with_reducible assumption | exact Below.drew (by with_reducible assumption)) hba; clear hba))
                | (go_at_call 16; ((with_reducible refine (HSt.out _ (by first | with_reducible assumption | exact Below.drew (by with_reducible assumption))).mono ?_); rintro e wb ⟨A6, c6, A7, c7, s, rfl, hks, hhs, hbb⟩; have HKs := Lib.hid hks; have HHs := Lib.hid hhs; have hbB : Below (wr.alloc (.cells #[.int .i64 x.1, .int .i64 x.2] 50)).heap.size (wr.alloc (.cells #[.int .i64 x.1, .int .i64 x.2] 50)) wb := belStep (belAlloc hbA _) hbb; clear hks hhs hbb))
                | (go_at_call 14; ((with_reducible refine (HH2.out _ _ _ HKs.out HHs.out).mono ?_); rintro e wd ⟨rfl, hbd⟩; have hbD : Below (wr.alloc (.cells #[.int .i64 x.1, .int .i64 x.2] 50)).heap.size (wr.alloc (.cells #[.int .i64 x.1, .int .i64 x.2] 50)) wd := belStep hbB hbd; clear hbd)))
            have HBW := Lib.hid (show Below (w2.alloc (.cells #[.int .i64 r.base, .slice A4 r.rs.size c4, .slice (some ⟨b, off, none⟩) r.ats.size c5] 25)).heap.size (w2.alloc (.cells #[.int .i64 r.base, .slice A4 r.rs.size c4, .slice (some ⟨b, off, none⟩) r.ats.size c5] 25)) wd from belStep HB.out (belStep (bel1 wr _) hbD))
            have x0 : wd.cell? ⟨wr.heap.size, 0, none⟩ = some (.int .i64 x.1) := (KS.out _ hbD).2.2.2.1
            clear hbD hbB hbA hb0
            generalize hoo : ((r.ats.toList.take j).any fun x => x.1 == t) = oo at HOa
            have HOo := Lib.hid hoo
            clear hoo
            cases oo
            · obtain ⟨xt, hxt⟩ : ∃ xt, (x.1 == t) = xt := ⟨_, rfl⟩
              rw [hxt, Bool.false_or] at HOa
              go_wp2
              go_roundw
              case rel => exact ⟨j + 1, by go_num, by rw [HOa.out], by omega, HBW.out⟩
              case measure => simp [intOf]; omega
            · rw [Bool.true_or] at HOa
              go_wp2
              go_roundw
              case rel => exact ⟨j + 1, by go_num, by rw [HOa.out], by omega, HBW.out⟩
              case measure => simp [intOf]; omega
          · have hlt' : decide ((j : Int) < (r.ats.size : Int)) = false := decide_eq_false (by omega)
            have hall : ((r.ats.toList.take j).any fun x => x.1 == t) = (r.ats.toList.any fun x => x.1 == t) := by rw [List.take_of_length_le (by simp; omega)]
            rw [hall]
            clear hall
            generalize hoo : (r.ats.toList.any fun x => x.1 == t) = oo at HIn
            have HOo := Lib.hid hoo
            clear hoo
            obtain ⟨⟨m0, m1, m2⟩, _⟩ := blk3 (blk_bel HM3.out HB.out)
            have HHt := Lib.hid (kHas_any (.agg #[.int .i64 r.base, .slice A4 r.rs.size c4, .slice A5 r.ats.size c5]) r t wr (HR.out _ (belStep HB3.out HB.out)))
            by_cases g1 : lo < t
            · have d1 : decide (lo < t) = true := decide_eq_true g1
              by_cases g2 : t ≤ hi
              · have d2 : decide (t ≤ hi) = true := decide_eq_true g2
                cases oo
                · have hh := HHt.out
                  rw [HIn.out g1 g2 rfl] at hh
                  have HH := Lib.hid hh
                  clear hh HHt HIn g1 g2
                  go_wp2_with fail
                  refine HH.out.mono ?_
                  rintro e w5 ⟨rfl, hb5⟩
                  have HB5 := Lib.hid (belStep HB.out hb5)
                  clear hb5 p0 p1 p2 m0 m1 m2
                  obtain ⟨⟨p0, p1, p2⟩, _⟩ := blk3 (blk_bel HP.out HB5.out)
                  have HOp : Hid (∀ W, Below w5.heap.size w5 W → Calls Tryz.prog 19 #[.agg #[.int .i64 r.base, .slice A4 r.rs.size c4, .slice A5 r.ats.size c5]] W fun e w' => ∃ A o c, e = .returned (.slice A o.size c) ∧ OpenR r o ∧ RdI_R w'.heap.size w' A o ∧ o.size ≤ r.ats.size ∧ Below W.heap.size W w') := fun W hb => (kOpen_any (.agg #[.int .i64 r.base, .slice A4 r.rs.size c4, .slice A5 r.ats.size c5]) r W (HR.out _ (belStep HB3.out (belStep HB5.out hb))) (by omega)).mono fun e w' ⟨⟨A, o, c, h1, h2, h3, h4⟩, h5⟩ => ⟨A, o, c, h1, h2, h3, h4, h5⟩
                  have HSt2 : Hid (∀ wa W o A c, Below w5.heap.size w5 W → OpenR r o → RdI_R wa.heap.size wa A o → Below wa.heap.size wa W → o.size ≤ r.ats.size → Calls Tryz.prog 16 #[.agg #[.int .i64 r.base, .slice A4 r.rs.size c4, .slice A5 r.ats.size c5], .slice A o.size c] W fun e w' => ∃ A6 c6 A7 c7 s, e = .returned (.agg #[.int .i64 s.base, .slice A6 s.rs.size c6, .slice A7 s.ats.size c7]) ∧ KnV w' (.agg #[.int .i64 s.base, .slice A6 s.rs.size c6, .slice A7 s.ats.size c7]) s ∧ s.ats.size = 0 ∧ (∀ o2, OpenR s o2 → o2.size = 0) ∧ Below W.heap.size W w') := fun wa W o A c hb ho hro hbw hos => by
                    refine (kSettle_any (.agg #[.int .i64 r.base, .slice A4 r.rs.size c4, .slice A5 r.ats.size c5]) r o A c W (HR.out _ (belStep HB3.out (belStep HB5.out hb))) (hro.next hbw) y1 (by omega)).mono ?_
                    rintro e w' ⟨hso, hb'⟩
                    rcases hso with ⟨hc, _⟩ | ⟨_, v', s, rfl, hks, hs, _⟩
                    · rw [chk_iff.2 HCk.out] at hc; cases hc
                    · have hks' := hks
                      obtain ⟨A6, c6, A7, c7, rfl, _⟩ := hks'
                      have he := set_all HCk.out ho hs
                      exact ⟨A6, c6, A7, c7, s, rfl, hks, by rw [he]; rfl, fun o2 h2 => open_none he h2, hb'⟩
                  have KS2 : Hid (∀ W, Below w5.heap.size w5 W → (W.cell? ⟨w2.heap.size, 0, none⟩ = some (.int .i64 r.base) ∧ W.cell? ⟨w2.heap.size, 1, none⟩ = some (.slice A4 r.rs.size c4) ∧ W.cell? ⟨w2.heap.size, 2, none⟩ = some (.slice A5 r.ats.size c5))) := fun W hb => (blk3 (blk_bel (blk_bel HP.out HB5.out) hb)).1
                  have KT2 : Hid (∀ W g a b c, Below w5.heap.size w5 W → w5.heap.size ≤ g → ((((W.setCell ⟨g, 0, none⟩ a).setCell ⟨g, 1, none⟩ b).setCell ⟨g, 2, none⟩ c).cell? ⟨w2.heap.size, 0, none⟩ = some (.int .i64 r.base) ∧ (((W.setCell ⟨g, 0, none⟩ a).setCell ⟨g, 1, none⟩ b).setCell ⟨g, 2, none⟩ c).cell? ⟨w2.heap.size, 1, none⟩ = some (.slice A4 r.rs.size c4) ∧ (((W.setCell ⟨g, 0, none⟩ a).setCell ⟨g, 1, none⟩ b).setCell ⟨g, 2, none⟩ c).cell? ⟨w2.heap.size, 2, none⟩ = some (.slice A5 r.ats.size c5))) := fun W g a b c hb hg => by
                    have hpw := blk_lt (blk_bel HP.out HB5.out)
                    have hne : ∀ i j, (⟨g, i, none⟩ : Addr).block ≠ (⟨w2.heap.size, j, none⟩ : Addr).block := fun i j => by show g ≠ w2.heap.size; omega
                    obtain ⟨a0, a1, a2⟩ := KS2.out W hb
                    refine ⟨?_, ?_, ?_⟩ <;> rw [World.cell?_setCell_far _ _ _ _ (hne _ _), World.cell?_setCell_far _ _ _ _ (hne _ _), World.cell?_setCell_far _ _ _ _ (hne _ _)]
                    · exact a0
                    · exact a1
                    · exact a2
                  have HW : Hid (Below w.heap.size w w5) := belStep HB2.out (belStep HB3.out HB5.out)
                  have hb0 : Below w5.heap.size w5 w5 := Below.refl _ _
                  have hb0z : Below w5.heap.size w5 (w5.alloc (Obj.cells #[.int .i64 0, .slice none 0 0, .slice none 0 0] 25)) := bel1 _ _
                  have hpw := blk_lt (blk_bel HP.out HB5.out)
                  have QG : Hid (∀ (W W' : World), Below (W.alloc (Obj.cells #[.int .i64 0, .slice none 0 0, .slice none 0 0] 25)).heap.size (W.alloc (Obj.cells #[.int .i64 0, .slice none 0 0, .slice none 0 0] 25)) W' → W'.heap[W.heap.size]? = some (Obj.cells #[.int .i64 0, .slice none 0 0, .slice none 0 0] 25)) := fun W W' hb => (hb.block _ (by simp)).trans (heap_alloc_new W _)
                  have QD : Hid (∀ (W W' : World), Below (W.alloc (Obj.cells #[.int .i64 0, .slice none 0 0, .slice none 0 0] 25)).drew.heap.size (W.alloc (Obj.cells #[.int .i64 0, .slice none 0 0, .slice none 0 0] 25)).drew W' → W'.heap[W.heap.size]? = some (Obj.cells #[.int .i64 0, .slice none 0 0, .slice none 0 0] 25)) := fun W W' hb => (hb.block _ (by show W.heap.size < (W.alloc (Obj.cells #[.int .i64 0, .slice none 0 0, .slice none 0 0] 25)).heap.size; simp)).trans (heap_alloc_new W _)
                  go_wp2_with fail
                  go_region_held3 (fun W => (W.cell? ⟨w2.heap.size, 0, none⟩ = some (.int .i64 r.base) ∧ W.cell? ⟨w2.heap.size, 1, none⟩ = some (.slice A4 r.rs.size c4) ∧ W.cell? ⟨w2.heap.size, 2, none⟩ = some (.slice A5 r.ats.size c5))) (first | with_reducible exact KS2.out _ (by assumption) | with_reducible exact KS2.out _ (Below.drew (by assumption)) | with_reducible exact KS2.out _ (belAlloc (by assumption) _) | with_reducible exact KT2.out _ _ _ _ _ (by assumption) (by first | exact Nat.le_refl _ | exact hbA.size | exact hbB.size))
                    (first
                      | (go_at_call 19; ((with_reducible refine (HOp.out _ (by first | with_reducible assumption | exact Below.drew (by with_reducible assumption))).mono ?_); rintro e wa ⟨Ao, oo2, co, rfl, hop, hro, hos, hba⟩; have HOp2 := Lib.hid hop; have HRo := Lib.hid hro; have hbA : Below w5.heap.size w5 wa := belStep (by first | with_reducible assumption | exact Below.drew (by with_reducible assumption)) hba; have hbAz : Below w5.heap.size w5 (wa.alloc (Obj.cells #[.int .i64 0, .slice none 0 0, .slice none 0 0] 25)) := belAlloc hbA _; (try (have hq0 : wa.heap[w5.heap.size]? = some (Obj.cells #[.int .i64 0, .slice none 0 0, .slice none 0 0] 25) := (by first | with_reducible exact QG.out _ _ hba | with_reducible exact QD.out _ _ hba); have HQ0 := Lib.hid hq0; clear hq0)); clear hop hro hba))
                      | (go_at_call 16; ((with_reducible refine (HSt2.out wa _ _ _ _ (by first | with_reducible assumption | exact Below.drew (by with_reducible assumption)) HOp2.out HRo.out (by first | with_reducible exact Below.refl _ _ | with_reducible exact (Below.refl _ _).drew | with_reducible exact bel1 _ _ | with_reducible exact (bel1 _ _).drew) hos).mono ?_); rintro e wb ⟨A6, c6, A7, c7, s, rfl, hks, hsz, hson, hbb⟩; have HKs := Lib.hid hks; have HSo := Lib.hid hson; have HSz := Lib.hid hsz; have hbB : Below w5.heap.size w5 wb := belStep (by first | with_reducible assumption | exact Below.drew (by with_reducible assumption)) hbb; have hbBz : Below w5.heap.size w5 (wb.alloc (Obj.cells #[.int .i64 0, .slice none 0 0, .slice none 0 0] 25)) := belAlloc hbB _; (try (have hq1 : wb.heap[wa.heap.size]? = some (Obj.cells #[.int .i64 0, .slice none 0 0, .slice none 0 0] 25) := (by first | with_reducible exact QG.out _ _ hbb | with_reducible exact QD.out _ _ hbb); obtain ⟨⟨z0, z1, z2⟩, zf⟩ := blk3 hq1; have hzl := blk_lt hq1; have HQz := Lib.hid hq1; clear hq1)); (try (have hq2 : wb.heap[w5.heap.size]? = some (Obj.cells #[.int .i64 0, .slice none 0 0, .slice none 0 0] 25) := (by first | with_reducible exact blk_bel HQ0.out hbb | with_reducible exact blk_belD HQ0.out hbb); obtain ⟨⟨z0, z1, z2⟩, zf⟩ := blk3 hq2; have hzl := blk_lt hq2; have HQz := Lib.hid hq2; clear hq2 HQ0)); clear hks hson hsz hbb)))
                  · have HX := Lib.hid (HKs.out.below (bel1 wb (.cells #[.int .i64 s.base, .slice A6 s.rs.size c6, .slice A7 s.ats.size c7] 25)))
                    have HBX := Lib.hid (belAlloc (belStep HW.out hbB) (.cells #[.int .i64 s.base, .slice A6 s.rs.size c6, .slice A7 s.ats.size c7] 25))
                    rw [HSz.out] at HX HBX
                    have HO := Lib.hid (open_zero HX.out HSz.out HSo.out)
                    have hsz0 := HSz.out
                    clear hbA hbB hos hb0 hb0z
                    go_wp2_with fail
                    refine HO.out.mono ?_
                    rintro e wd ⟨⟨Az, cz, rfl⟩, hbd⟩
                    have HBD := Lib.hid (belStep HBX.out hbd)
                    clear hbd
                    go_wp2_with fail
                    refine (aw16_any _).mono ?_
                    rintro e w9 ⟨rfl, hb9⟩
                    go_wp2
                    go_ret
                    exact ⟨rfl, belStep HBD.out hb9⟩
                  · have hza := hbA.size
                    have hzw := HW.out.size
                    have HX := Lib.hid (kn_set (a := .int .i64 s.base) (b := .slice A6 s.rs.size c6) (c := .slice A7 s.ats.size c7) HKs.out HSz.out HQz.out)
                    have HBX := Lib.hid ((((belStep HW.out hbB).setCell (p := ⟨wa.heap.size, 0, none⟩) (show w.heap.size ≤ wa.heap.size by omega) (.int .i64 s.base)).setCell (p := ⟨wa.heap.size, 1, none⟩) (show w.heap.size ≤ wa.heap.size by omega) (.slice A6 s.rs.size c6)).setCell (p := ⟨wa.heap.size, 2, none⟩) (show w.heap.size ≤ wa.heap.size by omega) (.slice A7 s.ats.size c7))
                    rw [HSz.out] at HX HBX
                    have HO := Lib.hid (open_zero HX.out HSz.out HSo.out)
                    have hsz0 := HSz.out
                    clear hbA hbB hos hb0 hb0z
                    go_wp2_with fail
                    refine HO.out.mono ?_
                    rintro e wd ⟨⟨Az, cz, rfl⟩, hbd⟩
                    have HBD := Lib.hid (belStep HBX.out hbd)
                    clear hbd
                    go_wp2_with fail
                    refine (aw16_any _).mono ?_
                    rintro e w9 ⟨rfl, hb9⟩
                    go_wp2
                    go_ret
                    exact ⟨rfl, belStep HBD.out hb9⟩
                  · have hzw := HW.out.size
                    have HX := Lib.hid (kn_set (a := .int .i64 s.base) (b := .slice A6 s.rs.size c6) (c := .slice A7 s.ats.size c7) HKs.out HSz.out HQz.out)
                    have HBX := Lib.hid ((((belStep HW.out hbB).setCell (p := ⟨w5.heap.size, 0, none⟩) (show w.heap.size ≤ w5.heap.size by omega) (.int .i64 s.base)).setCell (p := ⟨w5.heap.size, 1, none⟩) (show w.heap.size ≤ w5.heap.size by omega) (.slice A6 s.rs.size c6)).setCell (p := ⟨w5.heap.size, 2, none⟩) (show w.heap.size ≤ w5.heap.size by omega) (.slice A7 s.ats.size c7))
                    rw [HSz.out] at HX HBX
                    have HO := Lib.hid (open_zero HX.out HSz.out HSo.out)
                    have hsz0 := HSz.out
                    clear hbA hbB hos hb0 hb0z
                    go_wp2_with fail
                    refine HO.out.mono ?_
                    rintro e wd ⟨⟨Az, cz, rfl⟩, hbd⟩
                    have HBD := Lib.hid (belStep HBX.out hbd)
                    clear hbd
                    go_wp2_with fail
                    refine (aw16_any _).mono ?_
                    rintro e w9 ⟨rfl, hb9⟩
                    go_wp2
                    go_ret
                    exact ⟨rfl, belStep HBD.out hb9⟩
                · clear HHt HIn g1 g2
                  have HB5 : Hid (Below (w2.alloc (.cells #[.int .i64 r.base, .slice A4 r.rs.size c4, .slice A5 r.ats.size c5] 25)).heap.size (w2.alloc (.cells #[.int .i64 r.base, .slice A4 r.rs.size c4, .slice A5 r.ats.size c5] 25)) wr) := HB.out
                  obtain ⟨⟨p0, p1, p2⟩, _⟩ := blk3 (blk_bel HP.out HB5.out)
                  have HOp : Hid (∀ W, Below wr.heap.size wr W → Calls Tryz.prog 19 #[.agg #[.int .i64 r.base, .slice A4 r.rs.size c4, .slice A5 r.ats.size c5]] W fun e w' => ∃ A o c, e = .returned (.slice A o.size c) ∧ OpenR r o ∧ RdI_R w'.heap.size w' A o ∧ o.size ≤ r.ats.size ∧ Below W.heap.size W w') := fun W hb => (kOpen_any (.agg #[.int .i64 r.base, .slice A4 r.rs.size c4, .slice A5 r.ats.size c5]) r W (HR.out _ (belStep HB3.out (belStep HB5.out hb))) (by omega)).mono fun e w' ⟨⟨A, o, c, h1, h2, h3, h4⟩, h5⟩ => ⟨A, o, c, h1, h2, h3, h4, h5⟩
                  have HSt2 : Hid (∀ wa W o A c, Below wr.heap.size wr W → OpenR r o → RdI_R wa.heap.size wa A o → Below wa.heap.size wa W → o.size ≤ r.ats.size → Calls Tryz.prog 16 #[.agg #[.int .i64 r.base, .slice A4 r.rs.size c4, .slice A5 r.ats.size c5], .slice A o.size c] W fun e w' => ∃ A6 c6 A7 c7 s, e = .returned (.agg #[.int .i64 s.base, .slice A6 s.rs.size c6, .slice A7 s.ats.size c7]) ∧ KnV w' (.agg #[.int .i64 s.base, .slice A6 s.rs.size c6, .slice A7 s.ats.size c7]) s ∧ s.ats.size = 0 ∧ (∀ o2, OpenR s o2 → o2.size = 0) ∧ Below W.heap.size W w') := fun wa W o A c hb ho hro hbw hos => by
                    refine (kSettle_any (.agg #[.int .i64 r.base, .slice A4 r.rs.size c4, .slice A5 r.ats.size c5]) r o A c W (HR.out _ (belStep HB3.out (belStep HB5.out hb))) (hro.next hbw) y1 (by omega)).mono ?_
                    rintro e w' ⟨hso, hb'⟩
                    rcases hso with ⟨hc, _⟩ | ⟨_, v', s, rfl, hks, hs, _⟩
                    · rw [chk_iff.2 HCk.out] at hc; cases hc
                    · have hks' := hks
                      obtain ⟨A6, c6, A7, c7, rfl, _⟩ := hks'
                      have he := set_all HCk.out ho hs
                      exact ⟨A6, c6, A7, c7, s, rfl, hks, by rw [he]; rfl, fun o2 h2 => open_none he h2, hb'⟩
                  have KS2 : Hid (∀ W, Below wr.heap.size wr W → (W.cell? ⟨w2.heap.size, 0, none⟩ = some (.int .i64 r.base) ∧ W.cell? ⟨w2.heap.size, 1, none⟩ = some (.slice A4 r.rs.size c4) ∧ W.cell? ⟨w2.heap.size, 2, none⟩ = some (.slice A5 r.ats.size c5))) := fun W hb => (blk3 (blk_bel (blk_bel HP.out HB5.out) hb)).1
                  have KT2 : Hid (∀ W g a b c, Below wr.heap.size wr W → wr.heap.size ≤ g → ((((W.setCell ⟨g, 0, none⟩ a).setCell ⟨g, 1, none⟩ b).setCell ⟨g, 2, none⟩ c).cell? ⟨w2.heap.size, 0, none⟩ = some (.int .i64 r.base) ∧ (((W.setCell ⟨g, 0, none⟩ a).setCell ⟨g, 1, none⟩ b).setCell ⟨g, 2, none⟩ c).cell? ⟨w2.heap.size, 1, none⟩ = some (.slice A4 r.rs.size c4) ∧ (((W.setCell ⟨g, 0, none⟩ a).setCell ⟨g, 1, none⟩ b).setCell ⟨g, 2, none⟩ c).cell? ⟨w2.heap.size, 2, none⟩ = some (.slice A5 r.ats.size c5))) := fun W g a b c hb hg => by
                    have hpw := blk_lt (blk_bel HP.out HB5.out)
                    have hne : ∀ i j, (⟨g, i, none⟩ : Addr).block ≠ (⟨w2.heap.size, j, none⟩ : Addr).block := fun i j => by show g ≠ w2.heap.size; omega
                    obtain ⟨a0, a1, a2⟩ := KS2.out W hb
                    refine ⟨?_, ?_, ?_⟩ <;> rw [World.cell?_setCell_far _ _ _ _ (hne _ _), World.cell?_setCell_far _ _ _ _ (hne _ _), World.cell?_setCell_far _ _ _ _ (hne _ _)]
                    · exact a0
                    · exact a1
                    · exact a2
                  have HW : Hid (Below w.heap.size w wr) := belStep HB2.out (belStep HB3.out HB5.out)
                  have hb0 : Below wr.heap.size wr wr := Below.refl _ _
                  have hb0z : Below wr.heap.size wr (wr.alloc (Obj.cells #[.int .i64 0, .slice none 0 0, .slice none 0 0] 25)) := bel1 _ _
                  have hpw := blk_lt (blk_bel HP.out HB5.out)
                  have QG : Hid (∀ (W W' : World), Below (W.alloc (Obj.cells #[.int .i64 0, .slice none 0 0, .slice none 0 0] 25)).heap.size (W.alloc (Obj.cells #[.int .i64 0, .slice none 0 0, .slice none 0 0] 25)) W' → W'.heap[W.heap.size]? = some (Obj.cells #[.int .i64 0, .slice none 0 0, .slice none 0 0] 25)) := fun W W' hb => (hb.block _ (by simp)).trans (heap_alloc_new W _)
                  have QD : Hid (∀ (W W' : World), Below (W.alloc (Obj.cells #[.int .i64 0, .slice none 0 0, .slice none 0 0] 25)).drew.heap.size (W.alloc (Obj.cells #[.int .i64 0, .slice none 0 0, .slice none 0 0] 25)).drew W' → W'.heap[W.heap.size]? = some (Obj.cells #[.int .i64 0, .slice none 0 0, .slice none 0 0] 25)) := fun W W' hb => (hb.block _ (by show W.heap.size < (W.alloc (Obj.cells #[.int .i64 0, .slice none 0 0, .slice none 0 0] 25)).heap.size; simp)).trans (heap_alloc_new W _)
                  go_wp2_with fail
                  go_region_held3 (fun W => (W.cell? ⟨w2.heap.size, 0, none⟩ = some (.int .i64 r.base) ∧ W.cell? ⟨w2.heap.size, 1, none⟩ = some (.slice A4 r.rs.size c4) ∧ W.cell? ⟨w2.heap.size, 2, none⟩ = some (.slice A5 r.ats.size c5))) (first | with_reducible exact KS2.out _ (by assumption) | with_reducible exact KS2.out _ (Below.drew (by assumption)) | with_reducible exact KS2.out _ (belAlloc (by assumption) _) | with_reducible exact KT2.out _ _ _ _ _ (by assumption) (by first | exact Nat.le_refl _ | exact hbA.size | exact hbB.size))
                    (first
                      | (go_at_call 19; ((with_reducible refine (HOp.out _ (by first | with_reducible assumption | exact Below.drew (by with_reducible assumption))).mono ?_); rintro e wa ⟨Ao, oo2, co, rfl, hop, hro, hos, hba⟩; have HOp2 := Lib.hid hop; have HRo := Lib.hid hro; have hbA : Below wr.heap.size wr wa := belStep (by first | with_reducible assumption | exact Below.drew (by with_reducible assumption)) hba; have hbAz : Below wr.heap.size wr (wa.alloc (Obj.cells #[.int .i64 0, .slice none 0 0, .slice none 0 0] 25)) := belAlloc hbA _; (try (have hq0 : wa.heap[wr.heap.size]? = some (Obj.cells #[.int .i64 0, .slice none 0 0, .slice none 0 0] 25) := (by first | with_reducible exact QG.out _ _ hba | with_reducible exact QD.out _ _ hba); have HQ0 := Lib.hid hq0; clear hq0)); clear hop hro hba))
                      | (go_at_call 16; ((with_reducible refine (HSt2.out wa _ _ _ _ (by first | with_reducible assumption | exact Below.drew (by with_reducible assumption)) HOp2.out HRo.out (by first | with_reducible exact Below.refl _ _ | with_reducible exact (Below.refl _ _).drew | with_reducible exact bel1 _ _ | with_reducible exact (bel1 _ _).drew) hos).mono ?_); rintro e wb ⟨A6, c6, A7, c7, s, rfl, hks, hsz, hson, hbb⟩; have HKs := Lib.hid hks; have HSo := Lib.hid hson; have HSz := Lib.hid hsz; have hbB : Below wr.heap.size wr wb := belStep (by first | with_reducible assumption | exact Below.drew (by with_reducible assumption)) hbb; have hbBz : Below wr.heap.size wr (wb.alloc (Obj.cells #[.int .i64 0, .slice none 0 0, .slice none 0 0] 25)) := belAlloc hbB _; (try (have hq1 : wb.heap[wa.heap.size]? = some (Obj.cells #[.int .i64 0, .slice none 0 0, .slice none 0 0] 25) := (by first | with_reducible exact QG.out _ _ hbb | with_reducible exact QD.out _ _ hbb); obtain ⟨⟨z0, z1, z2⟩, zf⟩ := blk3 hq1; have hzl := blk_lt hq1; have HQz := Lib.hid hq1; clear hq1)); (try (have hq2 : wb.heap[wr.heap.size]? = some (Obj.cells #[.int .i64 0, .slice none 0 0, .slice none 0 0] 25) := (by first | with_reducible exact blk_bel HQ0.out hbb | with_reducible exact blk_belD HQ0.out hbb); obtain ⟨⟨z0, z1, z2⟩, zf⟩ := blk3 hq2; have hzl := blk_lt hq2; have HQz := Lib.hid hq2; clear hq2 HQ0)); clear hks hson hsz hbb)))
                  · have HX := Lib.hid (HKs.out.below (bel1 wb (.cells #[.int .i64 s.base, .slice A6 s.rs.size c6, .slice A7 s.ats.size c7] 25)))
                    have HBX := Lib.hid (belAlloc (belStep HW.out hbB) (.cells #[.int .i64 s.base, .slice A6 s.rs.size c6, .slice A7 s.ats.size c7] 25))
                    rw [HSz.out] at HX HBX
                    have HO := Lib.hid (open_zero HX.out HSz.out HSo.out)
                    have hsz0 := HSz.out
                    clear hbA hbB hos hb0 hb0z
                    go_wp2_with fail
                    refine HO.out.mono ?_
                    rintro e wd ⟨⟨Az, cz, rfl⟩, hbd⟩
                    have HBD := Lib.hid (belStep HBX.out hbd)
                    clear hbd
                    go_wp2_with fail
                    refine (aw16_any _).mono ?_
                    rintro e w9 ⟨rfl, hb9⟩
                    go_wp2
                    go_ret
                    exact ⟨rfl, belStep HBD.out hb9⟩
                  · have hza := hbA.size
                    have hzw := HW.out.size
                    have HX := Lib.hid (kn_set (a := .int .i64 s.base) (b := .slice A6 s.rs.size c6) (c := .slice A7 s.ats.size c7) HKs.out HSz.out HQz.out)
                    have HBX := Lib.hid ((((belStep HW.out hbB).setCell (p := ⟨wa.heap.size, 0, none⟩) (show w.heap.size ≤ wa.heap.size by omega) (.int .i64 s.base)).setCell (p := ⟨wa.heap.size, 1, none⟩) (show w.heap.size ≤ wa.heap.size by omega) (.slice A6 s.rs.size c6)).setCell (p := ⟨wa.heap.size, 2, none⟩) (show w.heap.size ≤ wa.heap.size by omega) (.slice A7 s.ats.size c7))
                    rw [HSz.out] at HX HBX
                    have HO := Lib.hid (open_zero HX.out HSz.out HSo.out)
                    have hsz0 := HSz.out
                    clear hbA hbB hos hb0 hb0z
                    go_wp2_with fail
                    refine HO.out.mono ?_
                    rintro e wd ⟨⟨Az, cz, rfl⟩, hbd⟩
                    have HBD := Lib.hid (belStep HBX.out hbd)
                    clear hbd
                    go_wp2_with fail
                    refine (aw16_any _).mono ?_
                    rintro e w9 ⟨rfl, hb9⟩
                    go_wp2
                    go_ret
                    exact ⟨rfl, belStep HBD.out hb9⟩
                  · have hzw := HW.out.size
                    have HX := Lib.hid (kn_set (a := .int .i64 s.base) (b := .slice A6 s.rs.size c6) (c := .slice A7 s.ats.size c7) HKs.out HSz.out HQz.out)
                    have HBX := Lib.hid ((((belStep HW.out hbB).setCell (p := ⟨wr.heap.size, 0, none⟩) (show w.heap.size ≤ wr.heap.size by omega) (.int .i64 s.base)).setCell (p := ⟨wr.heap.size, 1, none⟩) (show w.heap.size ≤ wr.heap.size by omega) (.slice A6 s.rs.size c6)).setCell (p := ⟨wr.heap.size, 2, none⟩) (show w.heap.size ≤ wr.heap.size by omega) (.slice A7 s.ats.size c7))
                    rw [HSz.out] at HX HBX
                    have HO := Lib.hid (open_zero HX.out HSz.out HSo.out)
                    have hsz0 := HSz.out
                    clear hbA hbB hos hb0 hb0z
                    go_wp2_with fail
                    refine HO.out.mono ?_
                    rintro e wd ⟨⟨Az, cz, rfl⟩, hbd⟩
                    have HBD := Lib.hid (belStep HBX.out hbd)
                    clear hbd
                    go_wp2_with fail
                    refine (aw16_any _).mono ?_
                    rintro e w9 ⟨rfl, hb9⟩
                    go_wp2
                    go_ret
                    exact ⟨rfl, belStep HBD.out hb9⟩
              · have d2 : decide (t ≤ hi) = false := decide_eq_false g2
                clear HHt HIn g1 g2
                have HB5 : Hid (Below (w2.alloc (.cells #[.int .i64 r.base, .slice A4 r.rs.size c4, .slice A5 r.ats.size c5] 25)).heap.size (w2.alloc (.cells #[.int .i64 r.base, .slice A4 r.rs.size c4, .slice A5 r.ats.size c5] 25)) wr) := HB.out
                obtain ⟨⟨p0, p1, p2⟩, _⟩ := blk3 (blk_bel HP.out HB5.out)
                have HOp : Hid (∀ W, Below wr.heap.size wr W → Calls Tryz.prog 19 #[.agg #[.int .i64 r.base, .slice A4 r.rs.size c4, .slice A5 r.ats.size c5]] W fun e w' => ∃ A o c, e = .returned (.slice A o.size c) ∧ OpenR r o ∧ RdI_R w'.heap.size w' A o ∧ o.size ≤ r.ats.size ∧ Below W.heap.size W w') := fun W hb => (kOpen_any (.agg #[.int .i64 r.base, .slice A4 r.rs.size c4, .slice A5 r.ats.size c5]) r W (HR.out _ (belStep HB3.out (belStep HB5.out hb))) (by omega)).mono fun e w' ⟨⟨A, o, c, h1, h2, h3, h4⟩, h5⟩ => ⟨A, o, c, h1, h2, h3, h4, h5⟩
                have HSt2 : Hid (∀ wa W o A c, Below wr.heap.size wr W → OpenR r o → RdI_R wa.heap.size wa A o → Below wa.heap.size wa W → o.size ≤ r.ats.size → Calls Tryz.prog 16 #[.agg #[.int .i64 r.base, .slice A4 r.rs.size c4, .slice A5 r.ats.size c5], .slice A o.size c] W fun e w' => ∃ A6 c6 A7 c7 s, e = .returned (.agg #[.int .i64 s.base, .slice A6 s.rs.size c6, .slice A7 s.ats.size c7]) ∧ KnV w' (.agg #[.int .i64 s.base, .slice A6 s.rs.size c6, .slice A7 s.ats.size c7]) s ∧ s.ats.size = 0 ∧ (∀ o2, OpenR s o2 → o2.size = 0) ∧ Below W.heap.size W w') := fun wa W o A c hb ho hro hbw hos => by
                  refine (kSettle_any (.agg #[.int .i64 r.base, .slice A4 r.rs.size c4, .slice A5 r.ats.size c5]) r o A c W (HR.out _ (belStep HB3.out (belStep HB5.out hb))) (hro.next hbw) y1 (by omega)).mono ?_
                  rintro e w' ⟨hso, hb'⟩
                  rcases hso with ⟨hc, _⟩ | ⟨_, v', s, rfl, hks, hs, _⟩
                  · rw [chk_iff.2 HCk.out] at hc; cases hc
                  · have hks' := hks
                    obtain ⟨A6, c6, A7, c7, rfl, _⟩ := hks'
                    have he := set_all HCk.out ho hs
                    exact ⟨A6, c6, A7, c7, s, rfl, hks, by rw [he]; rfl, fun o2 h2 => open_none he h2, hb'⟩
                have KS2 : Hid (∀ W, Below wr.heap.size wr W → (W.cell? ⟨w2.heap.size, 0, none⟩ = some (.int .i64 r.base) ∧ W.cell? ⟨w2.heap.size, 1, none⟩ = some (.slice A4 r.rs.size c4) ∧ W.cell? ⟨w2.heap.size, 2, none⟩ = some (.slice A5 r.ats.size c5))) := fun W hb => (blk3 (blk_bel (blk_bel HP.out HB5.out) hb)).1
                have KT2 : Hid (∀ W g a b c, Below wr.heap.size wr W → wr.heap.size ≤ g → ((((W.setCell ⟨g, 0, none⟩ a).setCell ⟨g, 1, none⟩ b).setCell ⟨g, 2, none⟩ c).cell? ⟨w2.heap.size, 0, none⟩ = some (.int .i64 r.base) ∧ (((W.setCell ⟨g, 0, none⟩ a).setCell ⟨g, 1, none⟩ b).setCell ⟨g, 2, none⟩ c).cell? ⟨w2.heap.size, 1, none⟩ = some (.slice A4 r.rs.size c4) ∧ (((W.setCell ⟨g, 0, none⟩ a).setCell ⟨g, 1, none⟩ b).setCell ⟨g, 2, none⟩ c).cell? ⟨w2.heap.size, 2, none⟩ = some (.slice A5 r.ats.size c5))) := fun W g a b c hb hg => by
                  have hpw := blk_lt (blk_bel HP.out HB5.out)
                  have hne : ∀ i j, (⟨g, i, none⟩ : Addr).block ≠ (⟨w2.heap.size, j, none⟩ : Addr).block := fun i j => by show g ≠ w2.heap.size; omega
                  obtain ⟨a0, a1, a2⟩ := KS2.out W hb
                  refine ⟨?_, ?_, ?_⟩ <;> rw [World.cell?_setCell_far _ _ _ _ (hne _ _), World.cell?_setCell_far _ _ _ _ (hne _ _), World.cell?_setCell_far _ _ _ _ (hne _ _)]
                  · exact a0
                  · exact a1
                  · exact a2
                have HW : Hid (Below w.heap.size w wr) := belStep HB2.out (belStep HB3.out HB5.out)
                have hb0 : Below wr.heap.size wr wr := Below.refl _ _
                have hb0z : Below wr.heap.size wr (wr.alloc (Obj.cells #[.int .i64 0, .slice none 0 0, .slice none 0 0] 25)) := bel1 _ _
                have hpw := blk_lt (blk_bel HP.out HB5.out)
                have QG : Hid (∀ (W W' : World), Below (W.alloc (Obj.cells #[.int .i64 0, .slice none 0 0, .slice none 0 0] 25)).heap.size (W.alloc (Obj.cells #[.int .i64 0, .slice none 0 0, .slice none 0 0] 25)) W' → W'.heap[W.heap.size]? = some (Obj.cells #[.int .i64 0, .slice none 0 0, .slice none 0 0] 25)) := fun W W' hb => (hb.block _ (by simp)).trans (heap_alloc_new W _)
                have QD : Hid (∀ (W W' : World), Below (W.alloc (Obj.cells #[.int .i64 0, .slice none 0 0, .slice none 0 0] 25)).drew.heap.size (W.alloc (Obj.cells #[.int .i64 0, .slice none 0 0, .slice none 0 0] 25)).drew W' → W'.heap[W.heap.size]? = some (Obj.cells #[.int .i64 0, .slice none 0 0, .slice none 0 0] 25)) := fun W W' hb => (hb.block _ (by show W.heap.size < (W.alloc (Obj.cells #[.int .i64 0, .slice none 0 0, .slice none 0 0] 25)).heap.size; simp)).trans (heap_alloc_new W _)
                go_wp2_with fail
                go_region_held3 (fun W => (W.cell? ⟨w2.heap.size, 0, none⟩ = some (.int .i64 r.base) ∧ W.cell? ⟨w2.heap.size, 1, none⟩ = some (.slice A4 r.rs.size c4) ∧ W.cell? ⟨w2.heap.size, 2, none⟩ = some (.slice A5 r.ats.size c5))) (first | with_reducible exact KS2.out _ (by assumption) | with_reducible exact KS2.out _ (Below.drew (by assumption)) | with_reducible exact KS2.out _ (belAlloc (by assumption) _) | with_reducible exact KT2.out _ _ _ _ _ (by assumption) (by first | exact Nat.le_refl _ | exact hbA.size | exact hbB.size))
                  (first
                    | (go_at_call 19; ((with_reducible refine (HOp.out _ (by first | with_reducible assumption | exact Below.drew (by with_reducible assumption))).mono ?_); rintro e wa ⟨Ao, oo2, co, rfl, hop, hro, hos, hba⟩; have HOp2 := Lib.hid hop; have HRo := Lib.hid hro; have hbA : Below wr.heap.size wr wa := belStep (by first | with_reducible assumption | exact Below.drew (by with_reducible assumption)) hba; have hbAz : Below wr.heap.size wr (wa.alloc (Obj.cells #[.int .i64 0, .slice none 0 0, .slice none 0 0] 25)) := belAlloc hbA _; (try (have hq0 : wa.heap[wr.heap.size]? = some (Obj.cells #[.int .i64 0, .slice none 0 0, .slice none 0 0] 25) := (by first | with_reducible exact QG.out _ _ hba | with_reducible exact QD.out _ _ hba); have HQ0 := Lib.hid hq0; clear hq0)); clear hop hro hba))
                    | (go_at_call 16; ((with_reducible refine (HSt2.out wa _ _ _ _ (by first | with_reducible assumption | exact Below.drew (by with_reducible assumption)) HOp2.out HRo.out (by first | with_reducible exact Below.refl _ _ | with_reducible exact (Below.refl _ _).drew | with_reducible exact bel1 _ _ | with_reducible exact (bel1 _ _).drew) hos).mono ?_); rintro e wb ⟨A6, c6, A7, c7, s, rfl, hks, hsz, hson, hbb⟩; have HKs := Lib.hid hks; have HSo := Lib.hid hson; have HSz := Lib.hid hsz; have hbB : Below wr.heap.size wr wb := belStep (by first | with_reducible assumption | exact Below.drew (by with_reducible assumption)) hbb; have hbBz : Below wr.heap.size wr (wb.alloc (Obj.cells #[.int .i64 0, .slice none 0 0, .slice none 0 0] 25)) := belAlloc hbB _; (try (have hq1 : wb.heap[wa.heap.size]? = some (Obj.cells #[.int .i64 0, .slice none 0 0, .slice none 0 0] 25) := (by first | with_reducible exact QG.out _ _ hbb | with_reducible exact QD.out _ _ hbb); obtain ⟨⟨z0, z1, z2⟩, zf⟩ := blk3 hq1; have hzl := blk_lt hq1; have HQz := Lib.hid hq1; clear hq1)); (try (have hq2 : wb.heap[wr.heap.size]? = some (Obj.cells #[.int .i64 0, .slice none 0 0, .slice none 0 0] 25) := (by first | with_reducible exact blk_bel HQ0.out hbb | with_reducible exact blk_belD HQ0.out hbb); obtain ⟨⟨z0, z1, z2⟩, zf⟩ := blk3 hq2; have hzl := blk_lt hq2; have HQz := Lib.hid hq2; clear hq2 HQ0)); clear hks hson hsz hbb)))
                · have HX := Lib.hid (HKs.out.below (bel1 wb (.cells #[.int .i64 s.base, .slice A6 s.rs.size c6, .slice A7 s.ats.size c7] 25)))
                  have HBX := Lib.hid (belAlloc (belStep HW.out hbB) (.cells #[.int .i64 s.base, .slice A6 s.rs.size c6, .slice A7 s.ats.size c7] 25))
                  rw [HSz.out] at HX HBX
                  have HO := Lib.hid (open_zero HX.out HSz.out HSo.out)
                  have hsz0 := HSz.out
                  clear hbA hbB hos hb0 hb0z
                  go_wp2_with fail
                  refine HO.out.mono ?_
                  rintro e wd ⟨⟨Az, cz, rfl⟩, hbd⟩
                  have HBD := Lib.hid (belStep HBX.out hbd)
                  clear hbd
                  go_wp2_with fail
                  refine (aw16_any _).mono ?_
                  rintro e w9 ⟨rfl, hb9⟩
                  go_wp2
                  go_ret
                  exact ⟨rfl, belStep HBD.out hb9⟩
                · have hza := hbA.size
                  have hzw := HW.out.size
                  have HX := Lib.hid (kn_set (a := .int .i64 s.base) (b := .slice A6 s.rs.size c6) (c := .slice A7 s.ats.size c7) HKs.out HSz.out HQz.out)
                  have HBX := Lib.hid ((((belStep HW.out hbB).setCell (p := ⟨wa.heap.size, 0, none⟩) (show w.heap.size ≤ wa.heap.size by omega) (.int .i64 s.base)).setCell (p := ⟨wa.heap.size, 1, none⟩) (show w.heap.size ≤ wa.heap.size by omega) (.slice A6 s.rs.size c6)).setCell (p := ⟨wa.heap.size, 2, none⟩) (show w.heap.size ≤ wa.heap.size by omega) (.slice A7 s.ats.size c7))
                  rw [HSz.out] at HX HBX
                  have HO := Lib.hid (open_zero HX.out HSz.out HSo.out)
                  have hsz0 := HSz.out
                  clear hbA hbB hos hb0 hb0z
                  go_wp2_with fail
                  refine HO.out.mono ?_
                  rintro e wd ⟨⟨Az, cz, rfl⟩, hbd⟩
                  have HBD := Lib.hid (belStep HBX.out hbd)
                  clear hbd
                  go_wp2_with fail
                  refine (aw16_any _).mono ?_
                  rintro e w9 ⟨rfl, hb9⟩
                  go_wp2
                  go_ret
                  exact ⟨rfl, belStep HBD.out hb9⟩
                · have hzw := HW.out.size
                  have HX := Lib.hid (kn_set (a := .int .i64 s.base) (b := .slice A6 s.rs.size c6) (c := .slice A7 s.ats.size c7) HKs.out HSz.out HQz.out)
                  have HBX := Lib.hid ((((belStep HW.out hbB).setCell (p := ⟨wr.heap.size, 0, none⟩) (show w.heap.size ≤ wr.heap.size by omega) (.int .i64 s.base)).setCell (p := ⟨wr.heap.size, 1, none⟩) (show w.heap.size ≤ wr.heap.size by omega) (.slice A6 s.rs.size c6)).setCell (p := ⟨wr.heap.size, 2, none⟩) (show w.heap.size ≤ wr.heap.size by omega) (.slice A7 s.ats.size c7))
                  rw [HSz.out] at HX HBX
                  have HO := Lib.hid (open_zero HX.out HSz.out HSo.out)
                  have hsz0 := HSz.out
                  clear hbA hbB hos hb0 hb0z
                  go_wp2_with fail
                  refine HO.out.mono ?_
                  rintro e wd ⟨⟨Az, cz, rfl⟩, hbd⟩
                  have HBD := Lib.hid (belStep HBX.out hbd)
                  clear hbd
                  go_wp2_with fail
                  refine (aw16_any _).mono ?_
                  rintro e w9 ⟨rfl, hb9⟩
                  go_wp2
                  go_ret
                  exact ⟨rfl, belStep HBD.out hb9⟩
            · have d1 : decide (lo < t) = false := decide_eq_false g1
              clear HHt HIn g1
              have HB5 : Hid (Below (w2.alloc (.cells #[.int .i64 r.base, .slice A4 r.rs.size c4, .slice A5 r.ats.size c5] 25)).heap.size (w2.alloc (.cells #[.int .i64 r.base, .slice A4 r.rs.size c4, .slice A5 r.ats.size c5] 25)) wr) := HB.out
              obtain ⟨⟨p0, p1, p2⟩, _⟩ := blk3 (blk_bel HP.out HB5.out)
              have HOp : Hid (∀ W, Below wr.heap.size wr W → Calls Tryz.prog 19 #[.agg #[.int .i64 r.base, .slice A4 r.rs.size c4, .slice A5 r.ats.size c5]] W fun e w' => ∃ A o c, e = .returned (.slice A o.size c) ∧ OpenR r o ∧ RdI_R w'.heap.size w' A o ∧ o.size ≤ r.ats.size ∧ Below W.heap.size W w') := fun W hb => (kOpen_any (.agg #[.int .i64 r.base, .slice A4 r.rs.size c4, .slice A5 r.ats.size c5]) r W (HR.out _ (belStep HB3.out (belStep HB5.out hb))) (by omega)).mono fun e w' ⟨⟨A, o, c, h1, h2, h3, h4⟩, h5⟩ => ⟨A, o, c, h1, h2, h3, h4, h5⟩
              have HSt2 : Hid (∀ wa W o A c, Below wr.heap.size wr W → OpenR r o → RdI_R wa.heap.size wa A o → Below wa.heap.size wa W → o.size ≤ r.ats.size → Calls Tryz.prog 16 #[.agg #[.int .i64 r.base, .slice A4 r.rs.size c4, .slice A5 r.ats.size c5], .slice A o.size c] W fun e w' => ∃ A6 c6 A7 c7 s, e = .returned (.agg #[.int .i64 s.base, .slice A6 s.rs.size c6, .slice A7 s.ats.size c7]) ∧ KnV w' (.agg #[.int .i64 s.base, .slice A6 s.rs.size c6, .slice A7 s.ats.size c7]) s ∧ s.ats.size = 0 ∧ (∀ o2, OpenR s o2 → o2.size = 0) ∧ Below W.heap.size W w') := fun wa W o A c hb ho hro hbw hos => by
                refine (kSettle_any (.agg #[.int .i64 r.base, .slice A4 r.rs.size c4, .slice A5 r.ats.size c5]) r o A c W (HR.out _ (belStep HB3.out (belStep HB5.out hb))) (hro.next hbw) y1 (by omega)).mono ?_
                rintro e w' ⟨hso, hb'⟩
                rcases hso with ⟨hc, _⟩ | ⟨_, v', s, rfl, hks, hs, _⟩
                · rw [chk_iff.2 HCk.out] at hc; cases hc
                · have hks' := hks
                  obtain ⟨A6, c6, A7, c7, rfl, _⟩ := hks'
                  have he := set_all HCk.out ho hs
                  exact ⟨A6, c6, A7, c7, s, rfl, hks, by rw [he]; rfl, fun o2 h2 => open_none he h2, hb'⟩
              have KS2 : Hid (∀ W, Below wr.heap.size wr W → (W.cell? ⟨w2.heap.size, 0, none⟩ = some (.int .i64 r.base) ∧ W.cell? ⟨w2.heap.size, 1, none⟩ = some (.slice A4 r.rs.size c4) ∧ W.cell? ⟨w2.heap.size, 2, none⟩ = some (.slice A5 r.ats.size c5))) := fun W hb => (blk3 (blk_bel (blk_bel HP.out HB5.out) hb)).1
              have KT2 : Hid (∀ W g a b c, Below wr.heap.size wr W → wr.heap.size ≤ g → ((((W.setCell ⟨g, 0, none⟩ a).setCell ⟨g, 1, none⟩ b).setCell ⟨g, 2, none⟩ c).cell? ⟨w2.heap.size, 0, none⟩ = some (.int .i64 r.base) ∧ (((W.setCell ⟨g, 0, none⟩ a).setCell ⟨g, 1, none⟩ b).setCell ⟨g, 2, none⟩ c).cell? ⟨w2.heap.size, 1, none⟩ = some (.slice A4 r.rs.size c4) ∧ (((W.setCell ⟨g, 0, none⟩ a).setCell ⟨g, 1, none⟩ b).setCell ⟨g, 2, none⟩ c).cell? ⟨w2.heap.size, 2, none⟩ = some (.slice A5 r.ats.size c5))) := fun W g a b c hb hg => by
                have hpw := blk_lt (blk_bel HP.out HB5.out)
                have hne : ∀ i j, (⟨g, i, none⟩ : Addr).block ≠ (⟨w2.heap.size, j, none⟩ : Addr).block := fun i j => by show g ≠ w2.heap.size; omega
                obtain ⟨a0, a1, a2⟩ := KS2.out W hb
                refine ⟨?_, ?_, ?_⟩ <;> rw [World.cell?_setCell_far _ _ _ _ (hne _ _), World.cell?_setCell_far _ _ _ _ (hne _ _), World.cell?_setCell_far _ _ _ _ (hne _ _)]
                · exact a0
                · exact a1
                · exact a2
              have HW : Hid (Below w.heap.size w wr) := belStep HB2.out (belStep HB3.out HB5.out)
              have hb0 : Below wr.heap.size wr wr := Below.refl _ _
              have hb0z : Below wr.heap.size wr (wr.alloc (Obj.cells #[.int .i64 0, .slice none 0 0, .slice none 0 0] 25)) := bel1 _ _
              have hpw := blk_lt (blk_bel HP.out HB5.out)
              have QG : Hid (∀ (W W' : World), Below (W.alloc (Obj.cells #[.int .i64 0, .slice none 0 0, .slice none 0 0] 25)).heap.size (W.alloc (Obj.cells #[.int .i64 0, .slice none 0 0, .slice none 0 0] 25)) W' → W'.heap[W.heap.size]? = some (Obj.cells #[.int .i64 0, .slice none 0 0, .slice none 0 0] 25)) := fun W W' hb => (hb.block _ (by simp)).trans (heap_alloc_new W _)
              have QD : Hid (∀ (W W' : World), Below (W.alloc (Obj.cells #[.int .i64 0, .slice none 0 0, .slice none 0 0] 25)).drew.heap.size (W.alloc (Obj.cells #[.int .i64 0, .slice none 0 0, .slice none 0 0] 25)).drew W' → W'.heap[W.heap.size]? = some (Obj.cells #[.int .i64 0, .slice none 0 0, .slice none 0 0] 25)) := fun W W' hb => (hb.block _ (by show W.heap.size < (W.alloc (Obj.cells #[.int .i64 0, .slice none 0 0, .slice none 0 0] 25)).heap.size; simp)).trans (heap_alloc_new W _)
              go_wp2_with fail
              go_region_held3 (fun W => (W.cell? ⟨w2.heap.size, 0, none⟩ = some (.int .i64 r.base) ∧ W.cell? ⟨w2.heap.size, 1, none⟩ = some (.slice A4 r.rs.size c4) ∧ W.cell? ⟨w2.heap.size, 2, none⟩ = some (.slice A5 r.ats.size c5))) (first | with_reducible exact KS2.out _ (by assumption) | with_reducible exact KS2.out _ (Below.drew (by assumption)) | with_reducible exact KS2.out _ (belAlloc (by assumption) _) | with_reducible exact KT2.out _ _ _ _ _ (by assumption) (by first | exact Nat.le_refl _ | exact hbA.size | exact hbB.size))
                (first
                  | (go_at_call 19; ((with_reducible refine (HOp.out _ (by first | with_reducible assumption | exact Below.drew (by with_reducible assumption))).mono ?_); rintro e wa ⟨Ao, oo2, co, rfl, hop, hro, hos, hba⟩; have HOp2 := Lib.hid hop; have HRo := Lib.hid hro; have hbA : Below wr.heap.size wr wa := belStep (by first | with_reducible assumption | exact Below.drew (by with_reducible assumption)) hba; have hbAz : Below wr.heap.size wr (wa.alloc (Obj.cells #[.int .i64 0, .slice none 0 0, .slice none 0 0] 25)) := belAlloc hbA _; (try (have hq0 : wa.heap[wr.heap.size]? = some (Obj.cells #[.int .i64 0, .slice none 0 0, .slice none 0 0] 25) := (by first | with_reducible exact QG.out _ _ hba | with_reducible exact QD.out _ _ hba); have HQ0 := Lib.hid hq0; clear hq0)); clear hop hro hba))
                  | (go_at_call 16; ((with_reducible refine (HSt2.out wa _ _ _ _ (by first | with_reducible assumption | exact Below.drew (by with_reducible assumption)) HOp2.out HRo.out (by first | with_reducible exact Below.refl _ _ | with_reducible exact (Below.refl _ _).drew | with_reducible exact bel1 _ _ | with_reducible exact (bel1 _ _).drew) hos).mono ?_); rintro e wb ⟨A6, c6, A7, c7, s, rfl, hks, hsz, hson, hbb⟩; have HKs := Lib.hid hks; have HSo := Lib.hid hson; have HSz := Lib.hid hsz; have hbB : Below wr.heap.size wr wb := belStep (by first | with_reducible assumption | exact Below.drew (by with_reducible assumption)) hbb; have hbBz : Below wr.heap.size wr (wb.alloc (Obj.cells #[.int .i64 0, .slice none 0 0, .slice none 0 0] 25)) := belAlloc hbB _; (try (have hq1 : wb.heap[wa.heap.size]? = some (Obj.cells #[.int .i64 0, .slice none 0 0, .slice none 0 0] 25) := (by first | with_reducible exact QG.out _ _ hbb | with_reducible exact QD.out _ _ hbb); obtain ⟨⟨z0, z1, z2⟩, zf⟩ := blk3 hq1; have hzl := blk_lt hq1; have HQz := Lib.hid hq1; clear hq1)); (try (have hq2 : wb.heap[wr.heap.size]? = some (Obj.cells #[.int .i64 0, .slice none 0 0, .slice none 0 0] 25) := (by first | with_reducible exact blk_bel HQ0.out hbb | with_reducible exact blk_belD HQ0.out hbb); obtain ⟨⟨z0, z1, z2⟩, zf⟩ := blk3 hq2; have hzl := blk_lt hq2; have HQz := Lib.hid hq2; clear hq2 HQ0)); clear hks hson hsz hbb)))
              · have HX := Lib.hid (HKs.out.below (bel1 wb (.cells #[.int .i64 s.base, .slice A6 s.rs.size c6, .slice A7 s.ats.size c7] 25)))
                have HBX := Lib.hid (belAlloc (belStep HW.out hbB) (.cells #[.int .i64 s.base, .slice A6 s.rs.size c6, .slice A7 s.ats.size c7] 25))
                rw [HSz.out] at HX HBX
                have HO := Lib.hid (open_zero HX.out HSz.out HSo.out)
                have hsz0 := HSz.out
                clear hbA hbB hos hb0 hb0z
                go_wp2_with fail
                refine HO.out.mono ?_
                rintro e wd ⟨⟨Az, cz, rfl⟩, hbd⟩
                have HBD := Lib.hid (belStep HBX.out hbd)
                clear hbd
                go_wp2_with fail
                refine (aw16_any _).mono ?_
                rintro e w9 ⟨rfl, hb9⟩
                go_wp2
                go_ret
                exact ⟨rfl, belStep HBD.out hb9⟩
              · have hza := hbA.size
                have hzw := HW.out.size
                have HX := Lib.hid (kn_set (a := .int .i64 s.base) (b := .slice A6 s.rs.size c6) (c := .slice A7 s.ats.size c7) HKs.out HSz.out HQz.out)
                have HBX := Lib.hid ((((belStep HW.out hbB).setCell (p := ⟨wa.heap.size, 0, none⟩) (show w.heap.size ≤ wa.heap.size by omega) (.int .i64 s.base)).setCell (p := ⟨wa.heap.size, 1, none⟩) (show w.heap.size ≤ wa.heap.size by omega) (.slice A6 s.rs.size c6)).setCell (p := ⟨wa.heap.size, 2, none⟩) (show w.heap.size ≤ wa.heap.size by omega) (.slice A7 s.ats.size c7))
                rw [HSz.out] at HX HBX
                have HO := Lib.hid (open_zero HX.out HSz.out HSo.out)
                have hsz0 := HSz.out
                clear hbA hbB hos hb0 hb0z
                go_wp2_with fail
                refine HO.out.mono ?_
                rintro e wd ⟨⟨Az, cz, rfl⟩, hbd⟩
                have HBD := Lib.hid (belStep HBX.out hbd)
                clear hbd
                go_wp2_with fail
                refine (aw16_any _).mono ?_
                rintro e w9 ⟨rfl, hb9⟩
                go_wp2
                go_ret
                exact ⟨rfl, belStep HBD.out hb9⟩
              · have hzw := HW.out.size
                have HX := Lib.hid (kn_set (a := .int .i64 s.base) (b := .slice A6 s.rs.size c6) (c := .slice A7 s.ats.size c7) HKs.out HSz.out HQz.out)
                have HBX := Lib.hid ((((belStep HW.out hbB).setCell (p := ⟨wr.heap.size, 0, none⟩) (show w.heap.size ≤ wr.heap.size by omega) (.int .i64 s.base)).setCell (p := ⟨wr.heap.size, 1, none⟩) (show w.heap.size ≤ wr.heap.size by omega) (.slice A6 s.rs.size c6)).setCell (p := ⟨wr.heap.size, 2, none⟩) (show w.heap.size ≤ wr.heap.size by omega) (.slice A7 s.ats.size c7))
                rw [HSz.out] at HX HBX
                have HO := Lib.hid (open_zero HX.out HSz.out HSo.out)
                have hsz0 := HSz.out
                clear hbA hbB hos hb0 hb0z
                go_wp2_with fail
                refine HO.out.mono ?_
                rintro e wd ⟨⟨Az, cz, rfl⟩, hbd⟩
                have HBD := Lib.hid (belStep HBX.out hbd)
                clear hbd
                go_wp2_with fail
                refine (aw16_any _).mono ?_
                rintro e w9 ⟨rfl, hb9⟩
                go_wp2
                go_ret
                exact ⟨rfl, belStep HBD.out hb9⟩

set_option maxRecDepth 100000 in
theorem lifted (os : Os) (started : os.Started) (H : Type) (enc : TypeId × Value → H) :
    ReturnsInHanded {} Tryz.checked os 6 .any (Rows.knownHidesSpec.pre6 enc Tryz.prog Tryz.f6 Rows.knownHidesRow.domain false) (Rows.knownHidesSpec.post enc Tryz.prog Tryz.f6 false true false false) := by
  refine returnsInHanded_of_change_sized (C := Tryz.checked) own started (by kernel_rfl) Tryz.func6
    (ChangeSpec.witness6 (enc := enc) (C := Tryz.checked) false ⟨#[], #[.agg #[.int .i64 0, .slice none 0 0, .slice none 0 0], .agg #[.int .i64 0, .int .i64 0, .slice none 0 0], .int .i64 0], []⟩ 8 (by kernel_rfl) (by kernel_rfl) (by kernel_rfl) (by kernel_rfl)) ?_
  intro W base args ds gs before hval0 hW _ _ _
  have hval : ∀ (j : Nat) t v, Tryz.f6.params[j]? = some t → args[j]? = some v → Value.okWide Tryz.prog W .any base t v := hval0
  have hW' := hW
  obtain ⟨p, q, hA0, hV, rfl, _, _⟩ := hW
  have hA : DataW.TrodAll enc Tryz.prog W 0 (fun _ => true) true Tryz.f6.params.toList args.toList ds p := hA0
  rw [Tryz.params6] at hA hval
  obtain ⟨v0, v1, v2, d0, d1, d2, p0, p1, p2, rfl, rfl, rfl, h0, h1, h2⟩ := trodAll_three hA
  obtain ⟨rfl, rfl⟩ := trodVars_none hV
  obtain ⟨k0, hk0⟩ := open_known (hval 0 25 v0 rfl rfl) h0
  obtain ⟨lo1, hi1, A1, c1, z1, rfl, r1, n1⟩ := open_more (hval 1 27 v1 rfl rfl) h1
  obtain ⟨a2, rfl, rfl, rfl, w2⟩ := open_int Tryz.underlying3 (hval 2 3 v2 rfl rfl) h2
  refine (walk v0 k0 lo1 hi1 A1 c1 z1 a2 W hk0 r1).mono fun e W' ⟨he, hb⟩ => ?_
  subst he
  exact ⟨_, rfl, law_post (tb := 4) laidOut (by decide +kernel) rfl hW' rfl rfl rfl rfl Tryz.underlying4 hb⟩

theorem over : Rows.knownHidesRow.holds Tryz.pinned (OpenSpec.ofChange Rows.knownHidesSpec) :=
  OpenClaim.holds_of_wide 6 Tryz.f6 rfl rfl rfl rfl rfl rfl rfl ⟨rfl, rfl, rfl, rfl, rfl⟩ rfl rfl rfl rfl rfl (by kernel_rfl) Tryz.func6 (by kernel_rfl)
    (of_decide_eq_true (by kernel_rfl)) (by unfold Func.isWrapper; first | (rw [if_pos (by decide +kernel)]; kernel_rfl) | (rw [if_neg (by decide +kernel)]; exact ⟨rfl, rfl⟩))
    (fun os started H enc _ => lifted os started H enc)
theorem proved : Rows.KnownHidesSaid := over
#print axioms proved
end Go.Proofs.YtgpejfkmdenonaaGreat.knownHides
