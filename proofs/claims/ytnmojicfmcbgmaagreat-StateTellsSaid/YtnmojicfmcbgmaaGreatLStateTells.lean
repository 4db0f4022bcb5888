/- The law StateTells returns true for every input, and changes nothing that lay there. No condition. -/
import Derived.Deep.RegionHeld3
import Derived.Test.YtnmojicfmcbgmaaGreatQStZ
import Derived.Test.YtnmojicfmcbgmaaGreatQStU
import Derived.Test.YtnmojicfmcbgmaaGreatQKaF
namespace Go.Proofs.YtnmojicfmcbgmaaGreat.stateTells
open Go.ChangeShapes Go.WideShapes Go.ChangeAt Go.RowKit Go.Deep Go.Sort
set_option maxRecDepth 100000
attribute [local go_sem ↓] execOp_loadRep execOp_storeRep
attribute [local go_sem] run_loadBox run_storeBox_any run_storeBox_newA allOne_lit size_lit
/-- Four boxes of replicas. -/
structure Four (w : World) (g3 g4 g7 g9 : Nat) (cr cs ca cb : Array Value) (W : World) : Prop where
  x3 : BoxG w g3 cr 35 W
  x4 : BoxG w g4 cs 35 W
  x7 : BoxG w g7 ca 35 W
  x9 : BoxG w g9 cb 35 W
theorem Four.next {w W W' : World} {g3 g4 g7 g9 : Nat} {cr cs ca cb : Array Value} (h : Four w g3 g4 g7 g9 cr cs ca cb W) (hb : Below W.heap.size W W') : Four w g3 g4 g7 g9 cr cs ca cb W' := ⟨h.x3.next hb, h.x4.next hb, h.x7.next hb, h.x9.next hb⟩
theorem same_ints (A1 A2 : Option Addr) (c1 c2 : Nat) (d : Array Int) (B1 B2 : Nat) (w : World) (h1 : RdI_R B1 w A1 d) (h2 : RdI_R B2 w A2 d) (hm : d.size ≤ 100000000) : Calls Tryz.prog 13 #[.slice A1 d.size c1, .slice A2 d.size c2] w fun e w' => e = .returned (.bool true) ∧ Below w.heap.size w w' := by
  refine (SameInts_any_R A1 A2 c1 c2 d d B1 B2 w h1 h2 hm).mono ?_
  rintro e w' ⟨rfl, q, hw⟩
  exact ⟨by simp, by rw [hw]; exact belDrewN (Below.refl _ _) q⟩
theorem marks_few {r : RP} (hf : FewC r) : (marksR r).size ≤ 20 := by
  unfold marksR
  split
  · rw [basesK_size]; exact hf.k
  · exact Nat.zero_le _
def newC (r : RP) : Int := if newP r.n r.f r.self then 0 else 2
set_option maxHeartbeats 32000000 in
theorem walk (r s : RP) (n : Int) (w : World) (hr : RdP w r) (hs : RdP w s) :
    Calls Tryz.prog 3 #[.agg (encP r).toArray, .agg (encP s).toArray, .int .i64 n] w fun e w' => e = .returned (.bool true) ∧ Below w.heap.size w w' := by
  obtain ⟨nc, hnc⟩ : ∃ n : Int, (if newP r.n r.f r.self then (0 : Int) else 2) = n := ⟨_, rfl⟩
  have HN1 : Hid (∀ W, Calls Tryz.prog 7 #[.int .i64 r.n, .int .i64 r.f, .int .i64 r.self] W fun e w' => ∃ (a : RP) (ca : Array Value), e = .returned (.tuple #[.agg ca, .int .i64 nc]) ∧ ca = (encP a).toArray ∧ (if newP r.n r.f r.self then NewR r.n r.f r.self r.n.toNat a else NewR 0 0 0 0 a) ∧ RdP w' a ∧ Below W.heap.size W w') := fun W =>
    (stNew_any r.n r.f r.self W).mono fun e w' ⟨⟨a, h1, h2, h3⟩, h4⟩ => ⟨a, _, by rw [← hnc]; exact h1, rfl, h2, h3, h4⟩
  have HN2 : Hid (∀ W, Calls Tryz.prog 8 #[.int .i64 r.n, .int .i64 r.f, .int .i64 r.self] W fun e w' => ∃ (a : RP) (ca : Array Value), e = .returned (.tuple #[.agg ca, .int .i64 nc]) ∧ ca = (encP a).toArray ∧ (if newP r.n r.f r.self then NewR r.n r.f r.self r.n.toNat a else NewR 0 0 0 0 a) ∧ RdP w' a ∧ Below W.heap.size W w') := fun W =>
    (rStNew_any r.n r.f r.self W).mono fun e w' ⟨⟨a, h1, h2, h3⟩, h4⟩ => ⟨a, _, by rw [← hnc]; exact h1, rfl, h2, h3, h4⟩
  clear hnc
  have HF1 : Hid (∀ W, Below w.heap.size w W → Calls Tryz.prog 5 #[.agg (encP r).toArray] W fun e w' => e = .returned (.bool (fewR r)) ∧ Below W.heap.size W w') := fun W hb => few25_any r W (hr.below hb)
  have HF2 : Hid (∀ W, Below w.heap.size w W → Calls Tryz.prog 5 #[.agg (encP s).toArray] W fun e w' => e = .returned (.bool (fewR s)) ∧ Below W.heap.size W w') := fun W hb => few25_any s W (hs.below hb)
  have HR := Lib.hid hr
  have HS := Lib.hid hs
  obtain ⟨g1, hg1⟩ : ∃ g, fewR r = g := ⟨_, rfl⟩
  obtain ⟨g2, hg2⟩ : ∃ g, fewR s = g := ⟨_, rfl⟩
  rw [hg1] at HF1
  rw [hg2] at HF2
  have HG1 := Lib.hid hg1
  have HG2 := Lib.hid hg2
  clear hg1 hg2 hr hs
  obtain ⟨cr, hcr⟩ : ∃ c, c = (encP r).toArray := ⟨_, rfl⟩
  obtain ⟨cs, hcs⟩ : ∃ c, c = (encP s).toArray := ⟨_, rfl⟩
  obtain ⟨hszr, honer⟩ := rowP hcr
  obtain ⟨hszs, hones⟩ := rowP hcs
  have HCR := Lib.hid hcr
  have HCS := Lib.hid hcs
  rw [← hcr] at HF1
  rw [← hcs] at HF2
  have hgoal : ∀ x y : Array Value, cr = x → cs = y → Calls Tryz.prog 3 #[.agg x, .agg y, .int .i64 n] w fun e w' => e = .returned (.bool true) ∧ Below w.heap.size w w' := by
    rintro _ _ rfl rfl
    simp only [encP] at hcr hcs
    have HX := Lib.hid (BoxG.fst w cr cs 35 35)
    have HY := Lib.hid (BoxG.snd w cr cs 35 35)
    have x1 := HX.out.box hszr
    have x2 := HX.out.rowAt
    rw [hcr, hcs]
    go_enter Tryz.func3, Tryz.ntmps3
    rw [← hcr, ← hcs]
    clear hcr hcs
    cases g1
    · go_wp2_with fail
      refine (HF1.out _ HX.out.b).mono ?_
      rintro _ w1 ⟨rfl, hb1⟩
      have HX := Lib.hid (HX.out.next hb1)
      clear hb1 x1 x2
      go_wp2_with fail
      refine (aw25_any _).mono ?_
      rintro _ w9 ⟨rfl, hb9⟩
      have HX := Lib.hid (HX.out.next hb9)
      clear hb9
      go_wp2
      go_ret
      exact ⟨rfl, HX.out.b⟩
    go_wp2_with fail
    refine (HF1.out _ HX.out.b).mono ?_
    rintro _ w1 ⟨rfl, hb1⟩
    have HX := Lib.hid (HX.out.next hb1)
    have HY := Lib.hid (HY.out.next hb1)
    clear hb1 x1 x2
    have y1 := HY.out.box hszs
    have y2 := HY.out.rowAt
    cases g2
    · go_wp2_with fail
      refine (HF2.out _ HX.out.b).mono ?_
      rintro _ w2 ⟨rfl, hb2⟩
      have HX := Lib.hid (HX.out.next hb2)
      clear hb2 y1 y2
      go_wp2_with fail
      refine (aw25_any _).mono ?_
      rintro _ w9 ⟨rfl, hb9⟩
      have HX := Lib.hid (HX.out.next hb9)
      clear hb9
      go_wp2
      go_ret
      exact ⟨rfl, HX.out.b⟩
    go_wp2_with fail
    refine (HF2.out _ HX.out.b).mono ?_
    rintro _ w2 ⟨rfl, hb2⟩
    have HX := Lib.hid (HX.out.next hb2)
    have HY := Lib.hid (HY.out.next hb2)
    clear hb2 y1 y2
    have FR := Lib.hid (fewR_iff.1 HG1.out).c
    have FS := Lib.hid (fewR_iff.1 HG2.out).c
    have q0 : cr[0]? = some (.int .i64 r.n) := by rw [HCR.out]; rfl
    have q1 : cr[1]? = some (.int .i64 r.f) := by rw [HCR.out]; rfl
    have q2 : cr[2]? = some (.int .i64 r.self) := by rw [HCR.out]; rfl
    have Q0 := Lib.hid q0
    have Q1 := Lib.hid q1
    have Q2 := Lib.hid q2
    clear q0 q1 q2
    have c0 := HX.out.at_ 0 Q0.out
    have c1 := HX.out.at_ 1 Q1.out
    have c2 := HX.out.at_ 2 Q2.out
    go_wp2_with fail
    refine (HN1.out _).mono ?_
    rintro _ w3 ⟨a, ca, rfl, hca, hna, hra, hb3⟩
    obtain ⟨hsza, honea⟩ := rowP hca
    have HCA := Lib.hid hca
    have HNA := Lib.hid hna
    have HA := Lib.hid (hra.below (bel1 w3 (.cells ca 35)))
    have HX := Lib.hid (HX.out.next hb3)
    have HY := Lib.hid (HY.out.next hb3)
    have HXA := Lib.hid (box_new HX.out.b ca 35)
    have HX := Lib.hid (HX.out.next (bel1 w3 (.cells ca 35)))
    have HY := Lib.hid (HY.out.next (bel1 w3 (.cells ca 35)))
    clear hb3 c0 c1 c2 hca hna hra
    have c0 := HX.out.at_ 0 Q0.out
    have c1 := HX.out.at_ 1 Q1.out
    have c2 := HX.out.at_ 2 Q2.out
    go_wp2_with fail
    refine (HN2.out _).mono ?_
    rintro _ w4 ⟨b, cb, rfl, hcb, hnb, hrb, hb4⟩
    obtain ⟨hszb, honeb⟩ := rowP hcb
    have HCB := Lib.hid hcb
    have HB : Hid (RdP (w4.alloc (.cells cb 35)) b) := hrb.below (bel1 w4 (.cells cb 35))
    have HA := Lib.hid ((HA.out.below hb4).below (bel1 w4 (.cells cb 35)))
    have HX := Lib.hid (HX.out.next hb4)
    have HXB := Lib.hid (box_new HX.out.b cb 35)
    have H4 : Hid (Four w w.heap.size (w.heap.size + 1) w3.heap.size w4.heap.size cr cs ca cb (w4.alloc (.cells cb 35))) := ⟨HX.out.next (bel1 w4 _), (HY.out.next hb4).next (bel1 w4 _), (HXA.out.next hb4).next (bel1 w4 _), HXB.out⟩
    have hsame : sameRP a b = true ∧ FewC a ∧ FewC b := by
      have hna := HNA.out
      by_cases hp : newP r.n r.f r.self
      · rw [if_pos hp] at hna hnb
        have h9 : r.n.toNat ≤ 20 := by obtain ⟨⟨p1, p2, _⟩, _⟩ := hp; omega
        exact ⟨hna.same hnb, (hna.few h9).c, (hnb.few h9).c⟩
      · rw [if_neg hp] at hna hnb
        exact ⟨hna.same hnb, (hna.few (by decide)).c, (hnb.few (by decide)).c⟩
    have HSM := Lib.hid hsame
    clear HX HXA HXB hsame hnb hrb hcb hb4 c0 c1 c2
    go_wp2
    obtain ⟨w5, hw5⟩ : ∃ W, W = w4.alloc (.cells cb 35) := ⟨_, rfl⟩
    rw [← hw5] at H4 HA HB ⊢
    clear hw5
    have HRb := Lib.hid (fun W (hb : Below w5.heap.size w5 W) => HR.out.below (H4.out.next hb).x3.b)
    have HSb := Lib.hid (fun W (hb : Below w5.heap.size w5 W) => HS.out.below (H4.out.next hb).x3.b)
    obtain ⟨c, hc⟩ : ∃ c, repE r = c := ⟨_, rfl⟩
    obtain ⟨q, hq⟩ : ∃ q, doneB r n = q := ⟨_, rfl⟩
    obtain ⟨d, hd⟩ : ∃ d, marksR r = d := ⟨_, rfl⟩
    obtain ⟨x, hx⟩ : ∃ x, sameRP r s = x := ⟨_, rfl⟩
    have HDS : Hid (d.size ≤ 100000000) := by show _ ≤ _; rw [← hd]; have := marks_few FR.out; omega
    have HC1 : Hid (∀ W, Below w5.heap.size w5 W → Calls Tryz.prog 9 #[.agg cr] W fun e w' => e = .returned (.int .i64 c) ∧ Below W.heap.size W w') := fun W hb => by
      rw [HCR.out, ← hc]; exact stCheck_any r W (HRb.out W hb) FR.out
    have HC2 : Hid (∀ W, Below w5.heap.size w5 W → Calls Tryz.prog 10 #[.agg cr] W fun e w' => e = .returned (.int .i64 c) ∧ Below W.heap.size W w') := fun W hb => by
      rw [HCR.out, ← hc]; exact rstCheck_any r W (HRb.out W hb) FR.out
    have HD1 : Hid (∀ W, Below w5.heap.size w5 W → Calls Tryz.prog 11 #[.agg cr, .int .i64 n] W fun e w' => e = .returned (.bool q) ∧ Below W.heap.size W w') := fun W hb => by
      rw [HCR.out, ← hq]; exact stDone_any r n W (HRb.out W hb) FR.out
    have HD2 : Hid (∀ W, Below w5.heap.size w5 W → Calls Tryz.prog 12 #[.agg cr, .int .i64 n] W fun e w' => e = .returned (.bool q) ∧ Below W.heap.size W w') := fun W hb => by
      rw [HCR.out, ← hq]; exact rDone_any r n W (HRb.out W hb) FR.out
    have hmk : ∀ e w', MarkQ r e w' → ∃ (A : Option Addr) (k : Nat), e = .returned (.slice A d.size k) ∧ RdI_R w'.heap.size w' A d := fun e w' ⟨x, h1, h2, h3⟩ => by
      obtain ⟨A, k, z⟩ := x
      have h2' : z = d := (show z = marksR r from h2).trans hd
      subst h2'
      exact ⟨A, k, h1, h3.rd⟩
    have HM1 : Hid (∀ W, Below w5.heap.size w5 W → Calls Tryz.prog 14 #[.agg cr] W fun e w' => (∃ (A : Option Addr) (k : Nat), e = .returned (.slice A d.size k) ∧ RdI_R w'.heap.size w' A d) ∧ Below W.heap.size W w') := fun W hb => by
      rw [HCR.out]; exact (stMarks_any r W (HRb.out W hb) FR.out).mono fun e w' ⟨h1, h2⟩ => ⟨hmk e w' h1, h2⟩
    have HM2 : Hid (∀ W, Below w5.heap.size w5 W → Calls Tryz.prog 15 #[.agg cr] W fun e w' => (∃ (A : Option Addr) (k : Nat), e = .returned (.slice A d.size k) ∧ RdI_R w'.heap.size w' A d) ∧ Below W.heap.size W w') := fun W hb => by
      rw [HCR.out]; exact (rStMarks_any r W (HRb.out W hb) FR.out).mono fun e w' ⟨h1, h2⟩ => ⟨hmk e w' h1, h2⟩
    have HS1 : Hid (∀ W, Below w5.heap.size w5 W → Calls Tryz.prog 16 #[.agg cr, .agg cs] W fun e w' => e = .returned (.bool x) ∧ Below W.heap.size W w') := fun W hb => by
      rw [HCR.out, HCS.out, ← hx]; exact stSame_any r s W (HRb.out W hb) (HSb.out W hb) FR.out FS.out
    have HS2 : Hid (∀ W, Below w5.heap.size w5 W → Calls Tryz.prog 17 #[.agg cr, .agg cs] W fun e w' => e = .returned (.bool x) ∧ Below W.heap.size W w') := fun W hb => by
      rw [HCR.out, HCS.out, ← hx]; exact rStSame_any r s W (HRb.out W hb) (HSb.out W hb) FR.out FS.out
    have HS3 : Hid (∀ W, Below w5.heap.size w5 W → Calls Tryz.prog 17 #[.agg ca, .agg cb] W fun e w' => e = .returned (.bool true) ∧ Below W.heap.size W w') := fun W hb => by
      rw [HCA.out, HCB.out, ← HSM.out.1]; exact rStSame_any a b W (HA.out.below hb) (HB.out.below hb) HSM.out.2.1 HSM.out.2.2
    have KS : Hid (∀ W, Below w5.heap.size w5 W → Below w5.heap.size w5 W ∧ boxAt W w.heap.size 18 = true ∧ rowAt W w.heap.size = cr ∧ boxAt W (w.heap.size + 1) 18 = true ∧ rowAt W (w.heap.size + 1) = cs ∧ boxAt W w3.heap.size 18 = true ∧ rowAt W w3.heap.size = ca ∧ boxAt W w4.heap.size 18 = true ∧ rowAt W w4.heap.size = cb) := fun W hb => by
      have h := H4.out.next hb
      exact ⟨hb, h.x3.box hszr, h.x3.rowAt, h.x4.box hszs, h.x4.rowAt, h.x7.box hsza, h.x7.rowAt, h.x9.box hszb, h.x9.rowAt⟩
    have HBW := Lib.hid H4.out.x3.b
    have hb0 : Below w5.heap.size w5 w5 := Below.refl _ _
    clear hc hq hd hx hmk
    go_region_held3 (fun W => Below w5.heap.size w5 W ∧ boxAt W w.heap.size 18 = true ∧ rowAt W w.heap.size = cr ∧ boxAt W (w.heap.size + 1) 18 = true ∧ rowAt W (w.heap.size + 1) = cs ∧ boxAt W w3.heap.size 18 = true ∧ rowAt W w3.heap.size = ca ∧ boxAt W w4.heap.size 18 = true ∧ rowAt W w4.heap.size = cb) (exact KS.out _ (by first | assumption | exact Below.drew (by assumption)))
      (first
        | (go_at_call 9; ((with_reducible refine (HC1.out _ (by first | assumption | exact Below.drew (by assumption))).mono ?_); rintro e wA ⟨rfl, hba⟩; have hbwA : Below w5.heap.size w5 wA := belStep (by first | assumption | exact Below.drew (by assumption)) hba; clear hba))
        | (go_at_call 10; ((with_reducible refine (HC2.out _ (by first | assumption | exact Below.drew (by assumption))).mono ?_); rintro e wB ⟨rfl, hba⟩; have hbwB : Below w5.heap.size w5 wB := belStep (by first | assumption | exact Below.drew (by assumption)) hba; clear hba))
        | (go_at_call 11; ((with_reducible refine (HD1.out _ (by first | assumption | exact Below.drew (by assumption))).mono ?_); rintro e wC ⟨rfl, hba⟩; have hbwC : Below w5.heap.size w5 wC := belStep (by first | assumption | exact Below.drew (by assumption)) hba; clear hba))
        | (go_at_call 12; ((with_reducible refine (HD2.out _ (by first | assumption | exact Below.drew (by assumption))).mono ?_); rintro e wD ⟨rfl, hba⟩; have hbwD : Below w5.heap.size w5 wD := belStep (by first | assumption | exact Below.drew (by assumption)) hba; clear hba))
        | (go_at_call 14; ((with_reducible refine (HM1.out _ (by first | assumption | exact Below.drew (by assumption))).mono ?_); rintro e wE ⟨⟨A1, k1, rfl, hr1⟩, hba⟩; have hbwE : Below w5.heap.size w5 wE := belStep (by first | assumption | exact Below.drew (by assumption)) hba; have HR1 := Lib.hid hr1; clear hr1; clear hba))
        | (go_at_call 15; ((with_reducible refine (HM2.out _ (by first | assumption | exact Below.drew (by assumption))).mono ?_); rintro e wF ⟨⟨A2, k2, rfl, hr2⟩, hba⟩; have hbwF : Below w5.heap.size w5 wF := belStep (by first | assumption | exact Below.drew (by assumption)) hba; have HR2 := Lib.hid hr2; have HR1 := Lib.hid (HR1.out.below hba); clear hr2; clear hba))
        | (go_at_call 13; ((with_reducible refine (same_ints A1 A2 k1 k2 d _ _ _ HR1.out HR2.out HDS.out).mono ?_); rintro e wG ⟨rfl, hba⟩; have hbwG : Below w5.heap.size w5 wG := belStep (by first | assumption | exact Below.drew (by assumption)) hba; clear hba))
        | (go_at_call 16; ((with_reducible refine (HS1.out _ (by first | assumption | exact Below.drew (by assumption))).mono ?_); rintro e wH ⟨rfl, hba⟩; have hbwH : Below w5.heap.size w5 wH := belStep (by first | assumption | exact Below.drew (by assumption)) hba; clear hba))
        | (go_at_call 17; ((with_reducible refine (HS2.out _ (by first | assumption | exact Below.drew (by assumption))).mono ?_); rintro e wI ⟨rfl, hba⟩; have hbwI : Below w5.heap.size w5 wI := belStep (by first | assumption | exact Below.drew (by assumption)) hba; clear hba))
        | (go_at_call 17; ((with_reducible refine (HS3.out _ (by first | assumption | exact Below.drew (by assumption))).mono ?_); rintro e wJ ⟨rfl, hba⟩; have hbwJ : Below w5.heap.size w5 wJ := belStep (by first | assumption | exact Below.drew (by assumption)) hba; clear hba))
        | (go_at_call 6; ((with_reducible refine (aw25_any _).mono ?_); rintro e wK ⟨rfl, hba⟩; have hbwK : Below w5.heap.size w5 wK := belStep (by first | assumption | exact Below.drew (by assumption)) hba; clear hba)))
    go_wp2
    go_ret
    exact ⟨rfl, belStep HBW.out hbwK⟩
  exact hgoal _ _ hcr hcs

set_option maxRecDepth 100000 in
theorem lifted (os : Os) (started : os.Started) (H : Type) (enc : TypeId × Value → H) :
    ReturnsInHanded {} Tryz.checked os 3 .any (Rows.stateTellsSpec.pre6 enc Tryz.prog Tryz.f3 Rows.stateTellsRow.domain false) (Rows.stateTellsSpec.post enc Tryz.prog Tryz.f3 false true false false) := by
  refine returnsInHanded_of_change_sized (C := Tryz.checked) own started (by kernel_rfl) Tryz.func3
    (ChangeSpec.witness6 (enc := enc) (C := Tryz.checked) false ⟨#[], #[.agg #[.int .i64 0, .int .i64 0, .int .i64 0, .int .i64 0, .int .i64 0, .int .i64 0, .int .i64 0, .slice none 0 0, .slice none 0 0, .slice none 0 0, .slice none 0 0, .slice none 0 0, .slice none 0 0, .int .i64 0, .int .i64 0, .int .i64 0, .slice none 0 0, .slice none 0 0], .agg #[.int .i64 0, .int .i64 0, .int .i64 0, .int .i64 0, .int .i64 0, .int .i64 0, .int .i64 0, .slice none 0 0, .slice none 0 0, .slice none 0 0, .slice none 0 0, .slice none 0 0, .slice none 0 0, .int .i64 0, .int .i64 0, .int .i64 0, .slice none 0 0, .slice none 0 0], .int .i64 0], []⟩ 8 (by kernel_rfl) (by kernel_rfl) (by kernel_rfl) (by kernel_rfl)) ?_
  intro W base args ds gs before hval0 hW _ _ _
  have hval : ∀ (j : Nat) t v, Tryz.f3.params[j]? = some t → args[j]? = some v → Value.okWide Tryz.prog W .any base t v := hval0
  have hW' := hW
  obtain ⟨p, q, hA0, hV, rfl, _, _⟩ := hW
  have hA : DataW.TrodAll enc Tryz.prog W 0 (fun _ => true) true Tryz.f3.params.toList args.toList ds p := hA0
  rw [Tryz.params3] at hA hval
  obtain ⟨v0, v1, v2, d0, d1, d2, p0, p1, p2, rfl, rfl, rfl, h0, h1, h2⟩ := trodAll_three hA
  obtain ⟨rfl, rfl⟩ := trodVars_none hV
  obtain ⟨r0, rfl, q0⟩ := open_rep (hval 0 35 v0 rfl rfl) h0
  obtain ⟨r1, rfl, q1⟩ := open_rep (hval 1 35 v1 rfl rfl) h1
  obtain ⟨a2, rfl, rfl, rfl, w2⟩ := open_int Tryz.underlying3 (hval 2 3 v2 rfl rfl) h2
  refine (walk r0 r1 a2 W q0 q1).mono fun e W' ⟨he, hb⟩ => ?_
  subst he
  exact ⟨_, rfl, law_post (tb := 4) laidOut (by decide +kernel) rfl hW' rfl rfl rfl rfl Tryz.underlying4 hb⟩

theorem over : Rows.stateTellsRow.holds Tryz.pinned (OpenSpec.ofChange Rows.stateTellsSpec) :=
  OpenClaim.holds_of_wide 3 Tryz.f3 rfl rfl rfl rfl rfl rfl rfl ⟨rfl, rfl, rfl, rfl, rfl⟩ rfl rfl rfl rfl rfl (by kernel_rfl) Tryz.func3 (by kernel_rfl)
    (of_decide_eq_true (by kernel_rfl)) (by unfold Func.isWrapper; first | (rw [if_pos (by decide +kernel)]; kernel_rfl) | (rw [if_neg (by decide +kernel)]; exact ⟨rfl, rfl⟩))
    (fun os started H enc _ => lifted os started H enc)
theorem proved : Rows.StateTellsSaid := over
#print axioms proved
end Go.Proofs.YtnmojicfmcbgmaaGreat.stateTells
