/- The law KnownSettles returns true for every input, and changes nothing that lay there. No condition. -/
import Derived.Test.YtgpejfkmdenonaaGreatQKnT
import Derived.Test.YtgpejfkmdenonaaGreatQKnZ
namespace Go.Proofs.YtgpejfkmdenonaaGreat.knownSettles
open Go.ChangeShapes Go.WideShapes Go.ChangeAt Go.RowKit Go.Deep Go.Sort
def SetQ (k : KN) (ids : Array Int) (s : KN) : Prop := (chkB k = false ∧ s = k) ∨ (ChkP k ∧ SetR k ids s)
theorem SetQ.uniq {k s t : KN} {ids : Array Int} (h : SetQ k ids s) (g : SetQ k ids t) : s = t := by
  rcases h with ⟨h0, rfl⟩ | ⟨h0, h1⟩
  · rcases g with ⟨_, rfl⟩ | ⟨g0, _⟩
    · rfl
    · rw [chk_iff.2 g0] at h0
      cases h0
  · rcases g with ⟨g0, _⟩ | ⟨_, g1⟩
    · rw [chk_iff.2 h0] at g0
      cases g0
    · exact h1.uniq g1
theorem kSettle_q (v : Value) (k : KN) (ids : Array Int) (A3 : Option Addr) (c3 : Nat) (w : World) (h : KnV w v k) (h3 : RdI_R w.heap.size w A3 ids) (s1 : k.rs.size ≤ 100) (s2 : k.ats.size ≤ 100) (s3 : ids.size ≤ 100000) :
    Calls Tryz.prog 16 #[v, .slice A3 ids.size c3] w fun e w' => ∃ A4 c4 A5 c5 s, e = .returned (.agg #[.int .i64 s.base, .slice A4 s.rs.size c4, .slice A5 s.ats.size c5]) ∧ KnV w' (.agg #[.int .i64 s.base, .slice A4 s.rs.size c4, .slice A5 s.ats.size c5]) s ∧ SetQ k ids s ∧ s.rs.size ≤ 1000 ∧ s.ats.size ≤ 1000 ∧ Below w.heap.size w w' := by
  refine (kSettle_any v k ids A3 c3 w h h3 (by omega) s3).mono ?_
  rintro e w' ⟨⟨h0, rfl⟩ | ⟨hP, v', s, rfl, hk, hs, hz⟩, hb⟩
  · have hk := h.below hb
    obtain ⟨A4, c4, A5, c5, rfl, _⟩ := h
    exact ⟨A4, c4, A5, c5, k, rfl, hk, Or.inl ⟨h0, rfl⟩, by omega, by omega, hb⟩
  · have hk' := hk
    obtain ⟨A4, c4, A5, c5, rfl, _⟩ := hk'
    refine ⟨A4, c4, A5, c5, s, rfl, hk, Or.inr ⟨hP, hs⟩, by omega, ?_, hb⟩
    obtain ⟨l, _, _, hf⟩ := hs.ok hP
    have := List.length_filter_le (fun a => !doneK ids a) k.ats.toList
    rw [hf.eat]
    unfold stayK
    simp at this ⊢
    omega
theorem rSettle_q (v : Value) (k : KN) (ids : Array Int) (A3 : Option Addr) (c3 : Nat) (w : World) (h : KnV w v k) (h3 : RdI_R w.heap.size w A3 ids) (s1 : k.rs.size ≤ 100) (s3 : ids.size ≤ 100000) :
    Calls Tryz.prog 17 #[v, .slice A3 ids.size c3] w fun e w' => ∃ A4 c4 A5 c5 s, e = .returned (.agg #[.int .i64 s.base, .slice A4 s.rs.size c4, .slice A5 s.ats.size c5]) ∧ KnV w' (.agg #[.int .i64 s.base, .slice A4 s.rs.size c4, .slice A5 s.ats.size c5]) s ∧ SetQ k ids s ∧ Below w.heap.size w w' := by
  refine (rSettle_any v k ids A3 c3 w h h3 (by omega) s3).mono ?_
  rintro e w' ⟨⟨h0, rfl⟩ | ⟨hP, v', s, rfl, hk, hs⟩, hb⟩
  · have hk := h.below hb
    obtain ⟨A4, c4, A5, c5, rfl, _⟩ := h
    exact ⟨A4, c4, A5, c5, k, rfl, hk, Or.inl ⟨h0, rfl⟩, hb⟩
  · have hk' := hk
    obtain ⟨A4, c4, A5, c5, rfl, _⟩ := hk'
    exact ⟨A4, c4, A5, c5, s, rfl, hk, Or.inr ⟨hP, hs⟩, hb⟩
theorem rdI_heap {B : Nat} {w w' : World} {A : Option Addr} {d : Array Int} (h : RdI_R B w A d) (e : w'.heap = w.heap) : RdI_R B w' A d := fun h0 => by
  obtain ⟨b, off, e1, hb, f⟩ := h h0
  refine ⟨b, off, e1, hb, fun i hi => ?_⟩
  have := f i hi
  unfold World.cell? at this ⊢
  rw [e]
  exact this
theorem sameInts_yes (A1 A2 : Option Addr) (c1 c2 : Nat) (d : Array Int) (B1 B2 : Nat) (w : World) (h1 : RdI_R B1 w A1 d) (h2 : RdI_R B2 w A2 d) (hm : d.size ≤ 100000000) : Calls Tryz.prog 18 #[.slice A1 d.size c1, .slice A2 d.size c2] w fun e w' => e = .returned (.bool true) ∧ Below w.heap.size w w' := by
  refine (SameInts_any_R A1 A2 c1 c2 d d B1 B2 w h1 h2 hm).mono ?_
  rintro e w' ⟨rfl, q, hw⟩
  exact ⟨by simp, by rw [hw]; exact belDrewN (Below.refl _ _) q⟩
set_option maxRecDepth 100000
set_option maxHeartbeats 16000000 in
theorem walk (v : Value) (k : KN) (v' : Value) (k' : KN) (A8 : Option Addr) (c8 : Nat) (ids : Array Int) (w : World) (hk : KnV w v k) (hk' : KnV w v' k') (h8 : RdI_R w.heap.size w A8 ids) :
    Calls Tryz.prog 4 #[v, v', .slice A8 ids.size c8] w fun e w' => e = .returned (.bool true) ∧ Below w.heap.size w w' := by
  have HFk := Lib.hid (fun W (hb : Below w.heap.size w W) => Few16_any v k W (hk.below hb))
  have HFj := Lib.hid (fun W (hb : Below w.heap.size w W) => Few16_any v' k' W (hk'.below hb))
  have HKV := Lib.hid hk
  have HJV := Lib.hid hk'
  have H8 := Lib.hid h8
  obtain ⟨base, rs, ats⟩ := k
  obtain ⟨A1, c1, A2, c2, rfl, _⟩ := hk
  obtain ⟨base', rs', ats'⟩ := k'
  obtain ⟨Aa, ca, Ab, cb, rfl, _⟩ := hk'
  have HK : Hid (∀ W, Below w.heap.size w W → KnV W (.agg #[.int .i64 base, .slice A1 rs.size c1, .slice A2 ats.size c2]) ⟨base, rs, ats⟩) := fun W hb => HKV.out.below hb
  have HJ : Hid (∀ W, Below w.heap.size w W → KnV W (.agg #[.int .i64 base', .slice Aa rs'.size ca, .slice Ab ats'.size cb]) ⟨base', rs', ats'⟩) := fun W hb => HJV.out.below hb
  have HT := Lib.hid (two_blk w (.cells #[.int .i64 base, .slice A1 rs.size c1, .slice A2 ats.size c2] 25) (.cells #[.int .i64 base', .slice Aa rs'.size ca, .slice Ab ats'.size cb] 25))
  clear h8 HKV HJV
  cases hf : fewK ⟨base, rs, ats⟩
  · rw [hf] at HFk
    clear hf
    go_enter Tryz.func4, Tryz.ntmps4
    go_wp2_with fail
    refine (HFk.out _ (belAlloc (bel1 w _) _)).mono ?_
    rintro e wa ⟨rfl, hba⟩
    have HKa := Lib.hid (blk_bel HT.out.1 hba)
    have HJa := Lib.hid (blk_bel HT.out.2 hba)
    have HBa := Lib.hid (belStep (belAlloc (bel1 w _) _) hba)
    clear hba
    go_wp2_with fail
    refine (aw16_any _).mono ?_
    rintro e w9 ⟨rfl, hb9⟩
    go_wp2
    go_ret
    exact ⟨rfl, belStep HBa.out hb9⟩
  · obtain ⟨s1, s2⟩ := fewK_iff.1 hf
    simp only at s1 s2
    rw [hf] at HFk
    clear hf
    cases hf : fewK ⟨base', rs', ats'⟩
    · rw [hf] at HFj
      clear hf
      go_enter Tryz.func4, Tryz.ntmps4
      go_wp2_with fail
      refine (HFk.out _ (belAlloc (bel1 w _) _)).mono ?_
      rintro e wa ⟨rfl, hba⟩
      have HKa := Lib.hid (blk_bel HT.out.1 hba)
      have HJa := Lib.hid (blk_bel HT.out.2 hba)
      have HBa := Lib.hid (belStep (belAlloc (bel1 w _) _) hba)
      clear hba
      obtain ⟨⟨j0, j1, j2⟩, _⟩ := blk3 HJa.out
      go_wp2_with fail
      refine (HFj.out _ HBa.out).mono ?_
      rintro e wb ⟨rfl, hbb⟩
      have HKb := Lib.hid (blk_bel HKa.out hbb)
      have HJb := Lib.hid (blk_bel HJa.out hbb)
      have HBb := Lib.hid (belStep HBa.out hbb)
      clear hbb j0 j1 j2 HKa HJa HBa
      go_wp2_with fail
      refine (aw16_any _).mono ?_
      rintro e w9 ⟨rfl, hb9⟩
      go_wp2
      go_ret
      exact ⟨rfl, belStep HBb.out hb9⟩
    · obtain ⟨s1', s2'⟩ := fewK_iff.1 hf
      simp only at s1' s2'
      rw [hf] at HFj
      clear hf
      by_cases s3 : 100 < ids.size
      · have q3 : decide ((100 : Int) < (ids.size : Int)) = true := decide_eq_true (by omega)
        go_enter Tryz.func4, Tryz.ntmps4
        go_wp2_with fail
        refine (HFk.out _ (belAlloc (bel1 w _) _)).mono ?_
        rintro e wa ⟨rfl, hba⟩
        have HKa := Lib.hid (blk_bel HT.out.1 hba)
        have HJa := Lib.hid (blk_bel HT.out.2 hba)
        have HBa := Lib.hid (belStep (belAlloc (bel1 w _) _) hba)
        clear hba
        obtain ⟨⟨j0, j1, j2⟩, _⟩ := blk3 HJa.out
        go_wp2_with fail
        refine (HFj.out _ HBa.out).mono ?_
        rintro e wb ⟨rfl, hbb⟩
        have HKb := Lib.hid (blk_bel HKa.out hbb)
        have HJb := Lib.hid (blk_bel HJa.out hbb)
        have HBb := Lib.hid (belStep HBa.out hbb)
        clear hbb j0 j1 j2 HKa HJa HBa
        go_wp2_with fail
        refine (aw16_any _).mono ?_
        rintro e w9 ⟨rfl, hb9⟩
        go_wp2
        go_ret
        exact ⟨rfl, belStep HBb.out hb9⟩
      · have q3 : decide ((100 : Int) < (ids.size : Int)) = false := decide_eq_false (by omega)
        go_enter Tryz.func4, Tryz.ntmps4
        go_wp2_with fail
        refine (HFk.out _ (belAlloc (bel1 w _) _)).mono ?_
        rintro e wa ⟨rfl, hba⟩
        have HKa := Lib.hid (blk_bel HT.out.1 hba)
        have HJa := Lib.hid (blk_bel HT.out.2 hba)
        have HBa := Lib.hid (belStep (belAlloc (bel1 w _) _) hba)
        clear hba
        obtain ⟨⟨j0, j1, j2⟩, _⟩ := blk3 HJa.out
        go_wp2_with fail
        refine (HFj.out _ HBa.out).mono ?_
        rintro e wb ⟨rfl, hbb⟩
        have HKb := Lib.hid (blk_bel HKa.out hbb)
        have HJb := Lib.hid (blk_bel HJa.out hbb)
        have HBb := Lib.hid (belStep HBa.out hbb)
        clear hbb j0 j1 j2 HKa HJa HBa
        have KS : Hid (∀ W, Below wb.heap.size wb W → Below wb.heap.size wb W ∧ W.cell? ⟨w.heap.size, 0, none⟩ = some (.int .i64 base) ∧ W.cell? ⟨w.heap.size, 1, none⟩ = some (.slice A1 rs.size c1) ∧ W.cell? ⟨w.heap.size, 2, none⟩ = some (.slice A2 ats.size c2) ∧ W.cell? ⟨w.heap.size + 1, 0, none⟩ = some (.int .i64 base') ∧ W.cell? ⟨w.heap.size + 1, 1, none⟩ = some (.slice Aa rs'.size ca) ∧ W.cell? ⟨w.heap.size + 1, 2, none⟩ = some (.slice Ab ats'.size cb)) := fun W hb => by
          obtain ⟨⟨a0, a1, a2⟩, _⟩ := blk3 (blk_bel HKb.out hb)
          obtain ⟨⟨d0, d1, d2⟩, _⟩ := blk3 (blk_bel HJb.out hb)
          exact ⟨hb, a0, a1, a2, d0, d1, d2⟩
        have HSe : Hid (∀ W, Below wb.heap.size wb W → Calls Tryz.prog 16 #[.agg #[.int .i64 base, .slice A1 rs.size c1, .slice A2 ats.size c2], .slice A8 ids.size c8] W fun e w' => ∃ A4 c4 A5 c5 s, e = .returned (.agg #[.int .i64 s.base, .slice A4 s.rs.size c4, .slice A5 s.ats.size c5]) ∧ KnV w' (.agg #[.int .i64 s.base, .slice A4 s.rs.size c4, .slice A5 s.ats.size c5]) s ∧ SetQ ⟨base, rs, ats⟩ ids s ∧ s.rs.size ≤ 1000 ∧ s.ats.size ≤ 1000 ∧ Below W.heap.size W w') := fun W hb => kSettle_q (.agg #[.int .i64 base, .slice A1 rs.size c1, .slice A2 ats.size c2]) ⟨base, rs, ats⟩ ids A8 c8 W (HK.out _ (belStep HBb.out hb)) ((H8.out.below (belStep HBb.out hb)).mono (belStep HBb.out hb).size) s1 s2 (by omega)
        have HSr : Hid (∀ W, Below wb.heap.size wb W → Calls Tryz.prog 17 #[.agg #[.int .i64 base, .slice A1 rs.size c1, .slice A2 ats.size c2], .slice A8 ids.size c8] W fun e w' => ∃ A4 c4 A5 c5 s, e = .returned (.agg #[.int .i64 s.base, .slice A4 s.rs.size c4, .slice A5 s.ats.size c5]) ∧ KnV w' (.agg #[.int .i64 s.base, .slice A4 s.rs.size c4, .slice A5 s.ats.size c5]) s ∧ SetQ ⟨base, rs, ats⟩ ids s ∧ Below W.heap.size W w') := fun W hb => rSettle_q (.agg #[.int .i64 base, .slice A1 rs.size c1, .slice A2 ats.size c2]) ⟨base, rs, ats⟩ ids A8 c8 W (HK.out _ (belStep HBb.out hb)) ((H8.out.below (belStep HBb.out hb)).mono (belStep HBb.out hb).size) s1 (by omega)
        have HSm : Hid (∀ W0 W v1 v2 s, KnV W0 v1 s → KnV W0 v2 s → s.rs.size ≤ 1000 → s.ats.size ≤ 1000 → Below W0.heap.size W0 W → Calls Tryz.prog 11 #[v1, v2] W fun e w' => e = .returned (.bool true) ∧ Below W.heap.size W w') := fun W0 W v1 v2 s a b c d hb => by
          have := rSame16_any v1 v2 s s W (a.below hb) (b.below hb) (by omega) (by omega) (by omega) (by omega)
          rwa [same_self] at this
        have HOp : Hid (∀ W, Below wb.heap.size wb W → Calls Tryz.prog 19 #[.agg #[.int .i64 base, .slice A1 rs.size c1, .slice A2 ats.size c2]] W fun e w' => ∃ A o c, e = .returned (.slice A o.size c) ∧ OpenR ⟨base, rs, ats⟩ o ∧ RdI_R w'.heap.size w' A o ∧ o.size ≤ 100 ∧ Below W.heap.size W w') := fun W hb => (kOpen_any (.agg #[.int .i64 base, .slice A1 rs.size c1, .slice A2 ats.size c2]) ⟨base, rs, ats⟩ W (HK.out _ (belStep HBb.out hb)) (by simp only; omega)).mono fun e w' ⟨⟨A, o, c, h1, h2, h3, h4⟩, h5⟩ => ⟨A, o, c, h1, h2, h3, by simp only at h4; omega, h5⟩
        have HOr : Hid (∀ W, Below wb.heap.size wb W → Calls Tryz.prog 20 #[.agg #[.int .i64 base, .slice A1 rs.size c1, .slice A2 ats.size c2]] W fun e w' => ∃ A o c, e = .returned (.slice A o.size c) ∧ OpenR ⟨base, rs, ats⟩ o ∧ RdI_R w'.heap.size w' A o ∧ Below W.heap.size W w') := fun W hb => (rOpen_any (.agg #[.int .i64 base, .slice A1 rs.size c1, .slice A2 ats.size c2]) ⟨base, rs, ats⟩ W (HK.out _ (belStep HBb.out hb))).mono fun e w' ⟨⟨A, o, c, h1, h2, h3⟩, h5⟩ => ⟨A, o, c, h1, h2, h3, h5⟩
        have HSi : Hid (∀ W0 W B1 B2 A1 A2 c1 c2 d, RdI_R B1 W0 A1 d → RdI_R B2 W0 A2 d → d.size ≤ 100 → W.heap = W0.heap → Calls Tryz.prog 18 #[.slice A1 d.size c1, .slice A2 d.size c2] W fun e w' => e = .returned (.bool true) ∧ Below W.heap.size W w') := fun W0 W B1 B2 A1 A2 c1 c2 d a b c hw => sameInts_yes A1 A2 c1 c2 d B1 B2 W (rdI_heap a hw) (rdI_heap b hw) (by omega)
        obtain ⟨sj, hsj⟩ : ∃ sj, sameK ⟨base, rs, ats⟩ ⟨base', rs', ats'⟩ = sj := ⟨_, rfl⟩
        have HSk : Hid (∀ W, Below wb.heap.size wb W → Calls Tryz.prog 21 #[.agg #[.int .i64 base, .slice A1 rs.size c1, .slice A2 ats.size c2], .agg #[.int .i64 base', .slice Aa rs'.size ca, .slice Ab ats'.size cb]] W fun e w' => e = .returned (.bool sj) ∧ Below W.heap.size W w') := fun W hb => by
          have := kSame_any (.agg #[.int .i64 base, .slice A1 rs.size c1, .slice A2 ats.size c2]) (.agg #[.int .i64 base', .slice Aa rs'.size ca, .slice Ab ats'.size cb]) ⟨base, rs, ats⟩ ⟨base', rs', ats'⟩ W (HK.out _ (belStep HBb.out hb)) (HJ.out _ (belStep HBb.out hb)) (by simp only; omega) (by simp only; omega) (by simp only; omega) (by simp only; omega)
          rwa [hsj] at this
        have HSl : Hid (∀ W, Below wb.heap.size wb W → Calls Tryz.prog 11 #[.agg #[.int .i64 base, .slice A1 rs.size c1, .slice A2 ats.size c2], .agg #[.int .i64 base', .slice Aa rs'.size ca, .slice Ab ats'.size cb]] W fun e w' => e = .returned (.bool sj) ∧ Below W.heap.size W w') := fun W hb => by
          have := rSame16_any (.agg #[.int .i64 base, .slice A1 rs.size c1, .slice A2 ats.size c2]) (.agg #[.int .i64 base', .slice Aa rs'.size ca, .slice Ab ats'.size cb]) ⟨base, rs, ats⟩ ⟨base', rs', ats'⟩ W (HK.out _ (belStep HBb.out hb)) (HJ.out _ (belStep HBb.out hb)) (by simp only; omega) (by simp only; omega) (by simp only; omega) (by simp only; omega)
          rwa [hsj] at this
        have hb0 : Below wb.heap.size wb wb := Below.refl _ _
        clear hsj HFk HFj HT HK HJ H8
        go_wp2_with fail
        go_region_held3 (fun W => Below wb.heap.size wb W ∧ W.cell? ⟨w.heap.size, 0, none⟩ = some (.int .i64 base) ∧ W.cell? ⟨w.heap.size, 1, none⟩ = some (.slice A1 rs.size c1) ∧ W.cell? ⟨w.heap.size, 2, none⟩ = some (.slice A2 ats.size c2) ∧ W.cell? ⟨w.heap.size + 1, 0, none⟩ = some (.int .i64 base') ∧ W.cell? ⟨w.heap.size + 1, 1, none⟩ = some (.slice Aa rs'.size ca) ∧ W.cell? ⟨w.heap.size + 1, 2, none⟩ = some (.slice Ab ats'.size cb)) (first | with_reducible exact KS.out _ (by assumption) | with_reducible exact KS.out _ (Below.drew (by assumption)))
          (first
            | (go_at_call 16; ((with_reducible refine (HSe.out _ (by first | with_reducible assumption | exact Below.drew (by with_reducible assumption))).mono ?_); rintro e wc ⟨A4, c4, A5, c5, s, rfl, hks, hq, hz1, hz2, hbc⟩; have HKs := Lib.hid hks; have HQ := Lib.hid hq; have hbC : Below wb.heap.size wb wc := belStep (by first | with_reducible assumption | exact Below.drew (by with_reducible assumption)) hbc; clear hks hq hbc))
            | (go_at_call 17; ((with_reducible refine (HSr.out _ (by first | with_reducible assumption | exact Below.drew (by with_reducible assumption))).mono ?_); rintro e wd ⟨A6, c6, A7, c7, s', rfl, hks', hq', hbd⟩; have hss := HQ.out.uniq hq'; subst hss; have HKt := Lib.hid hks'; have HKs2 := Lib.hid (HKs.out.below (by first | with_reducible exact hbd | exact belStep ((Below.refl _ _).drew) hbd)); have hbD : Below wb.heap.size wb wd := belStep (by first | with_reducible assumption | exact Below.drew (by with_reducible assumption)) hbd; clear hks' hq' hbd))
            | (go_at_call 11; ((with_reducible refine (HSm.out wd _ _ _ _ HKs2.out HKt.out hz1 hz2 (by first | with_reducible exact Below.refl _ _ | with_reducible exact (Below.refl _ _).drew)).mono ?_); rintro e we ⟨rfl, hbe⟩; have hbE : Below wb.heap.size wb we := belStep (by first | with_reducible assumption | exact Below.drew (by with_reducible assumption)) hbe; clear hbe))
            | (go_at_call 19; ((with_reducible refine (HOp.out _ (by first | with_reducible assumption | exact Below.drew (by with_reducible assumption))).mono ?_); rintro e wf ⟨Ao, oo, co, rfl, hop, hro, hos, hbf⟩; have HOo := Lib.hid hop; have HRo := Lib.hid hro; have hbF : Below wb.heap.size wb wf := belStep (by first | with_reducible assumption | exact Below.drew (by with_reducible assumption)) hbf; clear hop hro hbf))
            | (go_at_call 20; ((with_reducible refine (HOr.out _ (by first | with_reducible assumption | exact Below.drew (by with_reducible assumption))).mono ?_); rintro e wg ⟨Ap, oo', cp, rfl, hop, hro, hbg⟩; have hoo := HOo.out.uniq hop; subst hoo; have HRp := Lib.hid hro; have HRo2 := Lib.hid (HRo.out.below (by first | with_reducible exact hbg | exact belStep ((Below.refl _ _).drew) hbg)); have hbG : Below wb.heap.size wb wg := belStep (by first | with_reducible assumption | exact Below.drew (by with_reducible assumption)) hbg; clear hop hro hbg))
            | (go_at_call 18; ((with_reducible refine (HSi.out wg _ _ _ _ _ _ _ _ HRo2.out HRp.out hos rfl).mono ?_); rintro e wh ⟨rfl, hbh⟩; have hbH : Below wb.heap.size wb wh := belStep (by first | with_reducible assumption | exact Below.drew (by with_reducible assumption)) hbh; clear hbh))
            | (go_at_call 21; ((with_reducible refine (HSk.out _ (by first | with_reducible assumption | exact Below.drew (by with_reducible assumption))).mono ?_); rintro e wi ⟨rfl, hbi⟩; have hbI : Below wb.heap.size wb wi := belStep (by first | with_reducible assumption | exact Below.drew (by with_reducible assumption)) hbi; clear hbi))
            | (go_at_call 11; ((with_reducible refine (HSl.out _ (by first | with_reducible assumption | exact Below.drew (by with_reducible assumption))).mono ?_); rintro e wj ⟨rfl, hbj⟩; have hbJ : Below wb.heap.size wb wj := belStep (by first | with_reducible assumption | exact Below.drew (by with_reducible assumption)) hbj; clear hbj))
            | (go_at_call 8; ((with_reducible refine (aw16_any _).mono ?_); rintro e wk ⟨rfl, hbk⟩; have hbK : Below wb.heap.size wb wk := belStep (by first | with_reducible assumption | exact Below.drew (by with_reducible assumption)) hbk; clear hbk)))
        all_goals
          go_wp2
          go_ret
          exact ⟨rfl, belStep HBb.out (by assumption)⟩

set_option maxRecDepth 100000 in
theorem lifted (os : Os) (started : os.Started) (H : Type) (enc : TypeId × Value → H) :
    ReturnsInHanded {} Tryz.checked os 4 .any (Rows.knownSettlesSpec.pre6 enc Tryz.prog Tryz.f4 Rows.knownSettlesRow.domain false) (Rows.knownSettlesSpec.post enc Tryz.prog Tryz.f4 false true false false) := by
  refine returnsInHanded_of_change_sized (C := Tryz.checked) own started (by kernel_rfl) Tryz.func4
    (ChangeSpec.witness6 (enc := enc) (C := Tryz.checked) false ⟨#[], #[.agg #[.int .i64 0, .slice none 0 0, .slice none 0 0], .agg #[.int .i64 0, .slice none 0 0, .slice none 0 0], .slice none 0 0], []⟩ 8 (by kernel_rfl) (by kernel_rfl) (by kernel_rfl) (by kernel_rfl)) ?_
  intro W base args ds gs before hval0 hW _ _ _
  have hval : ∀ (j : Nat) t v, Tryz.f4.params[j]? = some t → args[j]? = some v → Value.okWide Tryz.prog W .any base t v := hval0
  have hW' := hW
  obtain ⟨p, q, hA0, hV, rfl, _, _⟩ := hW
  have hA : DataW.TrodAll enc Tryz.prog W 0 (fun _ => true) true Tryz.f4.params.toList args.toList ds p := hA0
  rw [Tryz.params4] at hA hval
  obtain ⟨v0, v1, v2, d0, d1, d2, p0, p1, p2, rfl, rfl, rfl, h0, h1, h2⟩ := trodAll_three hA
  obtain ⟨rfl, rfl⟩ := trodVars_none hV
  obtain ⟨k0, hk0⟩ := open_known (hval 0 25 v0 rfl rfl) h0
  obtain ⟨k1, hk1⟩ := open_known (hval 1 25 v1 rfl rfl) h1
  obtain ⟨A2, c2, z2, rfl, r2, n2⟩ := open_rdI0 Tryz.underlying40 Tryz.underlying3 (by kernel_rfl) (hval 2 40 v2 rfl rfl) h2
  refine (walk v0 k0 v1 k1 A2 c2 z2 W hk0 hk1 r2).mono fun e W' ⟨he, hb⟩ => ?_
  subst he
  exact ⟨_, rfl, law_post (tb := 4) laidOut (by decide +kernel) rfl hW' rfl rfl rfl rfl Tryz.underlying4 hb⟩

theorem over : Rows.knownSettlesRow.holds Tryz.pinned (OpenSpec.ofChange Rows.knownSettlesSpec) :=
  OpenClaim.holds_of_wide 4 Tryz.f4 rfl rfl rfl rfl rfl rfl rfl ⟨rfl, rfl, rfl, rfl, rfl⟩ rfl rfl rfl rfl rfl (by kernel_rfl) Tryz.func4 (by kernel_rfl)
    (of_decide_eq_true (by kernel_rfl)) (by unfold Func.isWrapper; first | (rw [if_pos (by decide +kernel)]; kernel_rfl) | (rw [if_neg (by decide +kernel)]; exact ⟨rfl, rfl⟩))
    (fun os started H enc _ => lifted os started H enc)
theorem proved : Rows.KnownSettlesSaid := over
#print axioms proved
end Go.Proofs.YtgpejfkmdenonaaGreat.knownSettles
