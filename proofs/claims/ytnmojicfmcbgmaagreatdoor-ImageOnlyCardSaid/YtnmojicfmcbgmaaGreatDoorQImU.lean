/- A replica with its store, asked and held against another one: replica.Check, rubatoref35.Check, rubatoref33.Same, rubatoref34.Same; few: rubatolaw32, rubatolaw33, rubatolaw34. Rows that are too long: image.wide, rubatoref36.wide. A replica is made, by the document: rubatoref25.New. Arguments that are replicas, opened (printed by wip/tools/mkOpenP.py). -/
import Derived.Test.YtnmojicfmcbgmaaGreatDoorQStG
import Derived.Test.YtnmojicfmcbgmaaGreatDoorQOwnK
import Derived.Test.YtnmojicfmcbgmaaGreatDoorQTbD
import Derived.Test.YtnmojicfmcbgmaaGreatDoorQOpenN
import Derived.Test.YtnmojicfmcbgmaaGreatDoorQOpenK
import Derived.Test.YtnmojicfmcbgmaaGreatDoorQTbH
namespace Go.Proofs.YtnmojicfmcbgmaaGreatDoor
open Go.RowKit Go.Sort Go.Lib
set_option maxRecDepth 100000
attribute [local go_sem ↓] execOp_loadRep execOp_storeRep
attribute [local go_sem] run_loadBox run_storeBox_new
def repW (r : RP) : Int := if chkW r = true then 0 else 2
set_option maxHeartbeats 4000000 in
theorem repCheck_any (r : RP) (w : World) (h : RdP w r) (hf : FewC r) :
    Calls Tryz.prog 16 #[.agg (encP r).toArray] w fun e w' => e = .returned (.int .i64 (repW r)) ∧ Below w.heap.size w w' := by
  obtain ⟨g1, hg1⟩ : ∃ g, chkR r = g := ⟨_, rfl⟩
  obtain ⟨g2, hg2⟩ : ∃ g, (itsB r.it.z && sesB r.ss.z) = g := ⟨_, rfl⟩
  have HV : Hid (repW r = if (g1 && g2) = true then 0 else 2) := by show _ = _; unfold repW chkW; rw [hg1, hg2]
  have HC : Hid (∀ W, Below w.heap.size w W → Calls Tryz.prog 54 #[.agg (encP r).toArray] W fun e w' => e = .returned (.int .i64 (if g1 = true then 0 else 2)) ∧ Below W.heap.size W w') := fun W hb => by
    have := stCheck_any r W (h.below hb) hf
    unfold repE at this
    rwa [hg1] at this
  have HS : Hid (∀ W, Below w.heap.size w W → Calls Tryz.prog 55 #[.agg #[.slice r.it.A r.it.z.size r.it.c, .slice r.ss.A r.ss.z.size r.ss.c]] W fun e w' => e = .returned (.int .i64 (if g2 = true then 0 else 2)) ∧ Below W.heap.size W w') := fun W hb => by
    have := svcCheck_any r.it r.ss W (h.it.below hb) (h.ss.below hb)
    unfold stoE at this
    rwa [hg2] at this
  obtain ⟨cs, hcs⟩ : ∃ cs, cs = (encP r).toArray := ⟨_, rfl⟩
  have HI : cs.size = 18 := by rw [hcs]; rfl
  have q16 : cs[16]? = some (.slice r.it.A r.it.z.size r.it.c) := by rw [hcs]; rfl
  have q17 : cs[17]? = some (.slice r.ss.A r.ss.z.size r.ss.c) := by rw [hcs]; rfl
  have Q16 := Lib.hid q16
  have Q17 := Lib.hid q17
  rw [← hcs] at HC
  clear hg1 hg2 h hf q16 q17
  have hgoal : ∀ y : Array Value, cs = y → Calls Tryz.prog 16 #[.agg y] w fun e w' => e = .returned (.int .i64 (repW r)) ∧ Below w.heap.size w w' := by
    rintro _ rfl
    simp only [encP] at hcs
    have HX := Lib.hid (BoxR.init w cs 35)
    have x1 := HX.out.box HI
    have x2 := HX.out.rowAt
    rw [HV.out]
    cases g1 <;> cases g2
    all_goals
      simp only [if_true, Bool.false_eq_true, if_false, Bool.and_self, Bool.and_true, Bool.and_false] at HC HS ⊢
      rw [hcs]
      go_enter Tryz.func16, Tryz.ntmps16
      rw [← hcs]
      clear hcs
      go_wp2_with (first
        | (go_at_call 54; refine (HC.out _ HX.out.b).mono ?_; rintro _ w1 ⟨rfl, hb⟩; have HX := Lib.hid (HX.out.next hb); clear hb x1 x2; have d1 := HX.out.at_ 16 Q16.out; have d2 := HX.out.at_ 17 Q17.out)
        | (go_at_call 55; refine (HS.out _ HX.out.b).mono ?_; rintro _ w2 ⟨rfl, hb⟩; have HX := Lib.hid (HX.out.next hb); clear hb))
      go_ret
      exact ⟨rfl, HX.out.b⟩
  exact hgoal _ hcs
theorem rSame33_any (x1 y1 : RW IT) (x2 y2 : RW SS) (w : World) (h1 : RdW encIT 4 w x1) (h2 : RdW encSS 3 w x2) (h3 : RdW encIT 4 w y1) (h4 : RdW encSS 3 w y2) (s1 : x1.z.size ≤ 1000) (s2 : x2.z.size ≤ 1000) (s3 : y1.z.size ≤ 1000) (s4 : y2.z.size ≤ 1000) :
    Calls Tryz.prog 51 #[.agg #[.slice x1.A x1.z.size x1.c, .slice x2.A x2.z.size x2.c], .agg #[.slice y1.A y1.z.size y1.c, .slice y2.A y2.z.size y2.c]] w fun e w' => e = .returned (.bool (decide (x1.z = y1.z) && decide (x2.z = y2.z))) ∧ Below w.heap.size w w' := by
  obtain ⟨A1, k1, z1⟩ := x1
  obtain ⟨A2, k2, z2⟩ := x2
  obtain ⟨A3, k3, z3⟩ := y1
  obtain ⟨A4, k4, z4⟩ := y2
  have H1 : Hid (∀ W, Below w.heap.size w W → Calls Tryz.prog 108 #[.slice A1 z1.size k1, .slice A3 z3.size k3] W fun e w' => e = .returned (.bool (decide (z1 = z3))) ∧ Below W.heap.size W w') := fun W hb => rSame30_any A1 A3 k1 k3 z1 z3 _ _ W (h1.below hb).rd (h3.below hb).rd (by simp only at s1; omega) (by simp only at s3; omega)
  have H2 : Hid (∀ W, Below w.heap.size w W → Calls Tryz.prog 109 #[.slice A2 z2.size k2, .slice A4 z4.size k4] W fun e w' => e = .returned (.bool (decide (z2 = z4))) ∧ Below W.heap.size W w') := fun W hb => rSame32_any A2 A4 k2 k4 z2 z4 _ _ W (h2.below hb).rd (h4.below hb).rd (by simp only at s2; omega) (by simp only at s4; omega)
  simp only
  generalize decide (z1 = z3) = g1 at H1 ⊢
  generalize decide (z2 = z4) = g2 at H2 ⊢
  clear h1 h2 h3 h4 s1 s2 s3 s4
  have HX := Lib.hid (BoxG.fst w #[.slice A1 z1.size k1, .slice A2 z2.size k2] #[.slice A3 z3.size k3, .slice A4 z4.size k4] 33 33)
  have HY := Lib.hid (BoxG.snd w #[.slice A1 z1.size k1, .slice A2 z2.size k2] #[.slice A3 z3.size k3, .slice A4 z4.size k4] 33 33)
  cases g1
  all_goals
    go_enter Tryz.func51, Tryz.ntmps51
    go_wp2_with (first
      | (go_at_call 108; refine (H1.out _ HX.out.b).mono ?_; rintro _ w1 ⟨rfl, hb⟩; have HX := Lib.hid (HX.out.next hb); have HY := Lib.hid (HY.out.next hb); clear hb; have d1 := HX.out.at_ 1 (v := .slice A2 z2.size k2) rfl; have d2 := HY.out.at_ 1 (v := .slice A4 z4.size k4) rfl)
      | (go_at_call 109; refine (H2.out _ HX.out.b).mono ?_; rintro _ w2 ⟨rfl, hb⟩; have HX := Lib.hid (HX.out.next hb); clear hb))
    go_ret
    exact ⟨rfl, HX.out.b⟩
set_option maxHeartbeats 8000000 in
theorem rSameW_any (a b : RP) (w : World) (ha : RdP w a) (hb : RdP w b) (fa : FewC a) (fb : FewC b) (s1 : a.it.z.size ≤ 1000) (s2 : a.ss.z.size ≤ 1000) (s3 : b.it.z.size ≤ 1000) (s4 : b.ss.z.size ≤ 1000) :
    Calls Tryz.prog 14 #[.agg (encP a).toArray, .agg (encP b).toArray] w fun e w' => e = .returned (.bool (sameW a b)) ∧ Below w.heap.size w w' := by
  have H1 : Hid (∀ W, Below w.heap.size w W → Calls Tryz.prog 50 #[.agg (encP a).toArray, .agg (encP b).toArray] W fun e w' => e = .returned (.bool (sameRP a b)) ∧ Below W.heap.size W w') := fun W h => rStSame_any a b W (ha.below h) (hb.below h) fa fb
  have H2 : Hid (∀ W, Below w.heap.size w W → Calls Tryz.prog 51 #[.agg #[.slice a.it.A a.it.z.size a.it.c, .slice a.ss.A a.ss.z.size a.ss.c], .agg #[.slice b.it.A b.it.z.size b.it.c, .slice b.ss.A b.ss.z.size b.ss.c]] W fun e w' => e = .returned (.bool (decide (a.it.z = b.it.z) && decide (a.ss.z = b.ss.z))) ∧ Below W.heap.size W w') := fun W h => rSame33_any a.it b.it a.ss b.ss W (ha.it.below h) (ha.ss.below h) (hb.it.below h) (hb.ss.below h) s1 s2 s3 s4
  obtain ⟨g1, hg1⟩ : ∃ g, sameRP a b = g := ⟨_, rfl⟩
  obtain ⟨g2, hg2⟩ : ∃ g, (decide (a.it.z = b.it.z) && decide (a.ss.z = b.ss.z)) = g := ⟨_, rfl⟩
  have HV : Hid (sameW a b = (g1 && g2)) := by show _ = _; unfold sameW; rw [hg1, hg2]
  rw [hg1] at H1
  rw [hg2] at H2
  obtain ⟨ca, hca⟩ : ∃ cs, cs = (encP a).toArray := ⟨_, rfl⟩
  obtain ⟨cb, hcb⟩ : ∃ cs, cs = (encP b).toArray := ⟨_, rfl⟩
  have HIa : ca.size = 18 := by rw [hca]; rfl
  have HIb : cb.size = 18 := by rw [hcb]; rfl
  have a16 : ca[16]? = some (.slice a.it.A a.it.z.size a.it.c) := by rw [hca]; rfl
  have a17 : ca[17]? = some (.slice a.ss.A a.ss.z.size a.ss.c) := by rw [hca]; rfl
  have b16 : cb[16]? = some (.slice b.it.A b.it.z.size b.it.c) := by rw [hcb]; rfl
  have b17 : cb[17]? = some (.slice b.ss.A b.ss.z.size b.ss.c) := by rw [hcb]; rfl
  have A16 := Lib.hid a16
  have A17 := Lib.hid a17
  have B16 := Lib.hid b16
  have B17 := Lib.hid b17
  rw [← hca, ← hcb] at H1
  clear hg1 hg2 ha hb fa fb s1 s2 s3 s4 a16 a17 b16 b17
  have hgoal : ∀ x y : Array Value, ca = x → cb = y → Calls Tryz.prog 14 #[.agg x, .agg y] w fun e w' => e = .returned (.bool (sameW a b)) ∧ Below w.heap.size w w' := by
    rintro _ _ rfl rfl
    simp only [encP] at hca hcb
    have HX := Lib.hid (BoxG.fst w ca cb 35 35)
    have HY := Lib.hid (BoxG.snd w ca cb 35 35)
    have x1 := boxAt_of HX.out.row HIa
    have x2 := rowAt_of HX.out.row
    have y1 := boxAt_of HY.out.row HIb
    have y2 := rowAt_of HY.out.row
    rw [HV.out]
    cases g1
    all_goals
      rw [hca, hcb]
      go_enter Tryz.func14, Tryz.ntmps14
      rw [← hca, ← hcb]
      clear hca hcb
      go_wp2_with (first
        | (go_at_call 50; refine (H1.out _ HX.out.b).mono ?_; rintro _ w1 ⟨rfl, hb⟩; have HX := Lib.hid (HX.out.next hb); have HY := Lib.hid (HY.out.next hb); clear hb x1 x2 y1 y2; have d1 := HX.out.at_ 16 A16.out; have d2 := HX.out.at_ 17 A17.out; have d3 := HY.out.at_ 16 B16.out; have d4 := HY.out.at_ 17 B17.out)
        | (go_at_call 51; refine (H2.out _ HX.out.b).mono ?_; rintro _ w2 ⟨rfl, hb⟩; have HX := Lib.hid (HX.out.next hb); clear hb))
      go_ret
      exact ⟨rfl, HX.out.b⟩
  exact hgoal _ _ hca hcb
/-! few -/
def fewSs (z : Array SS) : Bool := decide (z.size ≤ 60) && (List.range z.size).all fun i => decide (z[i]!.rep.size ≤ 1000)
theorem fewSs_iff {z : Array SS} : fewSs z = true ↔ z.size ≤ 60 ∧ ∀ i, i < z.size → z[i]!.rep.size ≤ 1000 := by
  unfold fewSs
  rw [Bool.and_eq_true, decide_eq_true_eq, List.all_eq_true]
  constructor
  · rintro ⟨h, g⟩; exact ⟨h, fun i hi => of_decide_eq_true (g i (List.mem_range.2 hi))⟩
  · rintro ⟨h, g⟩; exact ⟨h, fun i hi => decide_eq_true (g i (List.mem_range.1 hi))⟩
theorem few32_any (A : Option Addr) (c : Nat) (d : Array SS) (w : World) (h : RdK encSS 3 w.heap.size w A d) :
    Calls Tryz.prog 59 #[.slice A d.size c] w fun e w' => e = .returned (.bool (fewSs d)) ∧ w = w' := by
  by_cases hs : d.size ≤ 60
  · have hs' : decide ((60 : Int) < (d.size : Int)) = false := decide_eq_false (by omega)
    go_enter Tryz.func59, Tryz.ntmps59
    go_wp2
    go_loopw [3] (fun i wr => ∃ k : Nat, i = .int .i64 k ∧ k ≤ d.size ∧ Hid (∀ j, j < k → d[j]!.rep.size ≤ 1000) ∧ wr = w) (fun i _ => d.size - (intOf i).toNat)
    case atStart => exact ⟨0, rfl, Nat.zero_le _, Lib.hid (fun j hj => absurd hj (by omega)), rfl⟩
    case round =>
      obtain ⟨k, rfl, hk, hall, rfl⟩ := hrel
      by_cases hlt : k < d.size
      · have kz : (k : Int) < (d.size : Int) := by omega
        obtain ⟨b, off, rfl, hbl, f⟩ := h.at_ (i := k) hlt
        have e2 := f 2 (by omega)
        have HNO : Hid (1000 < d[k]!.rep.size → fewSs d = false) := fun hg => Bool.eq_false_iff.2 fun h => by have := (fewSs_iff.1 h).2 k hlt; omega
        have HJ : Hid (d[k]!.rep.size ≤ 1000 → ∀ j, j < k + 1 → d[j]!.rep.size ≤ 1000) := fun hg j hj => by
          rcases Nat.lt_or_ge j k with h' | h'
          · exact hall.out j h'
          · obtain rfl : j = k := by omega
            exact hg
        generalize d[k]! = x at e2 HNO HJ
        clear f
        simp only [encSS, List.getElem!_cons_zero, List.getElem!_cons_succ] at e2
        by_cases hg : 1000 < x.rep.size
        · have hg' : decide ((1000 : Int) < (x.rep.size : Int)) = true := decide_eq_true (by omega)
          have HF := Lib.hid (HNO.out hg)
          clear hg
          go_wp2
          go_ret
          exact ⟨ret_bool HF.out.symm, rfl⟩
        · have hg' : decide ((1000 : Int) < (x.rep.size : Int)) = false := decide_eq_false (by omega)
          have HT := Lib.hid (HJ.out (by omega))
          clear hg
          go_wp2
          go_roundw
          case rel => exact ⟨k + 1, by go_num, by omega, HT, trivial⟩
          case measure => simp [intOf]; omega
      · have hlt' : decide ((k : Int) < (d.size : Int)) = false := decide_eq_false (by omega)
        have HF : Hid (fewSs d = true) := fewSs_iff.2 ⟨hs, fun i hi => hall.out i (by omega)⟩
        go_wp2
        go_ret
        exact ⟨ret_bool HF.out.symm, rfl⟩
  · have hs' : decide ((60 : Int) < (d.size : Int)) = true := decide_eq_true (by omega)
    have HF : Hid (fewSs d = false) := Bool.eq_false_iff.2 fun h => hs (fewSs_iff.1 h).1
    go_enter Tryz.func59, Tryz.ntmps59
    go_wp2
    go_ret
    exact ⟨ret_bool HF.out.symm, rfl⟩
def fewSto (x1 : Array IT) (x2 : Array SS) : Bool := decide (x1.size ≤ 60) && fewSs x2
theorem few33_any (x1 : RW IT) (x2 : RW SS) (w : World) (h2 : RdW encSS 3 w x2) :
    Calls Tryz.prog 18 #[.agg #[.slice x1.A x1.z.size x1.c, .slice x2.A x2.z.size x2.c]] w fun e w' => e = .returned (.bool (fewSto x1.z x2.z)) ∧ Below w.heap.size w w' := by
  obtain ⟨A1, k1, z1⟩ := x1
  obtain ⟨A2, k2, z2⟩ := x2
  have H2 : Hid (∀ W, Below w.heap.size w W → Calls Tryz.prog 59 #[.slice A2 z2.size k2] W fun e w' => e = .returned (.bool (fewSs z2)) ∧ W = w') := fun W hb => few32_any A2 k2 z2 W (h2.below hb).rd
  have HX := Lib.hid (BoxR.init w #[.slice A1 z1.size k1, .slice A2 z2.size k2] 33)
  have HV : Hid (fewSto z1 z2 = (decide (z1.size ≤ 60) && fewSs z2)) := rfl
  simp only
  generalize fewSs z2 = g2 at H2 HV
  rw [HV.out]
  clear h2
  by_cases h1 : z1.size ≤ 60
  · have h1' : decide ((z1.size : Int) ≤ 60) = true := decide_eq_true (by omega)
    rw [decide_eq_true h1, Bool.true_and]
    clear h1
    go_enter Tryz.func18, Tryz.ntmps18
    go_wp2_with (go_at_call 59; refine (H2.out _ HX.out.b).mono ?_; rintro _ _ ⟨rfl, rfl⟩)
    go_ret
    exact ⟨rfl, HX.out.b⟩
  · have h1' : decide ((z1.size : Int) ≤ 60) = false := decide_eq_false (by omega)
    rw [decide_eq_false h1, Bool.false_and]
    clear h1
    go_enter Tryz.func18, Tryz.ntmps18
    go_wp2
    go_ret
    exact ⟨rfl, HX.out.b⟩
def fewW (r : RP) : Bool := fewR r && fewSto r.it.z r.ss.z
set_option maxHeartbeats 4000000 in
theorem few34_any (r : RP) (w : World) (h : RdP w r) :
    Calls Tryz.prog 6 #[.agg (encP r).toArray] w fun e w' => e = .returned (.bool (fewW r)) ∧ Below w.heap.size w w' := by
  have H1 : Hid (∀ W, Below w.heap.size w W → Calls Tryz.prog 17 #[.agg (encP r).toArray] W fun e w' => e = .returned (.bool (fewR r)) ∧ Below W.heap.size W w') := fun W hb => few25_any r W (h.below hb)
  have H2 : Hid (∀ W, Below w.heap.size w W → Calls Tryz.prog 18 #[.agg #[.slice r.it.A r.it.z.size r.it.c, .slice r.ss.A r.ss.z.size r.ss.c]] W fun e w' => e = .returned (.bool (fewSto r.it.z r.ss.z)) ∧ Below W.heap.size W w') := fun W hb => few33_any r.it r.ss W (h.ss.below hb)
  have HV : Hid (fewW r = (fewR r && fewSto r.it.z r.ss.z)) := rfl
  generalize fewR r = g1 at H1 HV
  generalize fewSto r.it.z r.ss.z = g2 at H2 HV
  obtain ⟨cs, hcs⟩ : ∃ cs, cs = (encP r).toArray := ⟨_, rfl⟩
  have HI : cs.size = 18 := by rw [hcs]; rfl
  have q16 : cs[16]? = some (.slice r.it.A r.it.z.size r.it.c) := by rw [hcs]; rfl
  have q17 : cs[17]? = some (.slice r.ss.A r.ss.z.size r.ss.c) := by rw [hcs]; rfl
  have Q16 := Lib.hid q16
  have Q17 := Lib.hid q17
  rw [← hcs] at H1
  clear h q16 q17
  have hgoal : ∀ y : Array Value, cs = y → Calls Tryz.prog 6 #[.agg y] w fun e w' => e = .returned (.bool (fewW r)) ∧ Below w.heap.size w w' := by
    rintro _ rfl
    simp only [encP] at hcs
    have HX := Lib.hid (BoxR.init w cs 35)
    have x1 := HX.out.box HI
    have x2 := HX.out.rowAt
    rw [HV.out]
    cases g1
    all_goals
      rw [hcs]
      go_enter Tryz.func6, Tryz.ntmps6
      rw [← hcs]
      clear hcs
      go_wp2_with (first
        | (go_at_call 17; refine (H1.out _ HX.out.b).mono ?_; rintro _ w1 ⟨rfl, hb⟩; have HX := Lib.hid (HX.out.next hb); clear hb x1 x2; have d1 := HX.out.at_ 16 Q16.out; have d2 := HX.out.at_ 17 Q17.out)
        | (go_at_call 18; refine (H2.out _ HX.out.b).mono ?_; rintro _ w2 ⟨rfl, hb⟩; have HX := Lib.hid (HX.out.next hb); clear hb))
      go_ret
      exact ⟨rfl, HX.out.b⟩
  exact hgoal _ hcs
end Go.Proofs.YtnmojicfmcbgmaaGreatDoor
namespace Go.Proofs.YtnmojicfmcbgmaaGreatDoor
open Go.RowKit Go.Sort Go.Lib
set_option maxRecDepth 100000
def farK (r : RP) (k : Nat) (m : Int) : Prop := 500 < m ↔ (500 < r.o.z.size ∨ ∃ i, i < k ∧ (500 < r.k.z[i]!.r.z.size ∨ 500 < r.k.z[i]!.a.z.size))
def farD (r : RP) (k : Nat) (m : Int) : Prop := 500 < m ↔ ((500 < r.o.z.size ∨ ∃ i, i < r.k.z.size ∧ (500 < r.k.z[i]!.r.z.size ∨ 500 < r.k.z[i]!.a.z.size)) ∨ ∃ i, i < k ∧ 500 < r.d.z[i]!.z.size)
theorem ex_succ {p : Nat → Prop} {k : Nat} : (∃ i, i < k + 1 ∧ p i) ↔ (∃ i, i < k ∧ p i) ∨ p k := by
  constructor
  · rintro ⟨i, hi, h⟩
    rcases Nat.lt_or_ge i k with h' | h'
    · exact Or.inl ⟨i, h', h⟩
    · obtain rfl : i = k := by omega
      exact Or.inr h
  · rintro (⟨i, hi, h⟩ | h)
    · exact ⟨i, by omega, h⟩
    · exact ⟨k, by omega, h⟩
theorem farK_step {r : RP} {k a b : Nat} {m m' : Int} (h : farK r k m) (ha : r.k.z[k]!.r.z.size = a) (hb : r.k.z[k]!.a.z.size = b) (e : m' = max m (max (a : Int) (b : Int))) : farK r (k + 1) m' := by
  unfold farK at h ⊢
  rw [ex_succ, ha, hb, ← or_assoc, ← h, e]
  omega
theorem farD_step {r : RP} {k a : Nat} {m m' : Int} (h : farD r k m) (ha : r.d.z[k]!.z.size = a) (e : m' = max m (a : Int)) : farD r (k + 1) m' := by
  unfold farD at h ⊢
  rw [ex_succ, ha, ← or_assoc, ← h, e]
  omega
theorem anyN_iff {n : Nat} {p : Nat → Bool} : anyN n p = true ↔ ∃ i, i < n ∧ p i = true := by
  unfold anyN
  rw [List.any_eq_true]
  constructor
  · rintro ⟨i, h1, h2⟩; exact ⟨i, List.mem_range.1 h1, h2⟩
  · rintro ⟨i, h1, h2⟩; exact ⟨i, List.mem_range.2 h1, h2⟩
theorem wideB_iff {r : RP} : wideB r = true ↔ (500 < r.o.z.size ∨ ∃ i, i < r.k.z.size ∧ (500 < r.k.z[i]!.r.z.size ∨ 500 < r.k.z[i]!.a.z.size)) ∨ ∃ i, i < r.d.z.size ∧ 500 < r.d.z[i]!.z.size := by
  unfold wideB
  simp only [Bool.or_eq_true, decide_eq_true_eq, anyN_iff, or_assoc]
theorem wide_of {r : RP} {m : Int} (h : farD r r.d.z.size m) : decide (500 < m) = wideB r := by
  rw [Bool.eq_iff_iff, wideB_iff, decide_eq_true_eq]
  exact h
set_option maxHeartbeats 8000000 in
theorem imWide_any (r : RP) (w : World) (hr : RdP w r) (hk1 : r.k.z.size ≤ 1000) (hd1 : r.d.z.size ≤ 1000) : Calls Tryz.prog 21 #[.agg (encP r).toArray] w fun e w' => e = .returned (.bool (wideB r)) ∧ Below w.heap.size w w' := by
  have HR := Lib.hid hr
  have HV := Lib.hid (fun m => @wide_of r m)
  obtain ⟨cs, hcs⟩ : ∃ cs, cs = (encP r).toArray := ⟨_, rfl⟩
  have q8 : cs[8]? = some (.slice r.o.A r.o.z.size r.o.c) := by rw [hcs]; rfl
  have q9 : cs[9]? = some (.slice r.k.A r.k.z.size r.k.c) := by rw [hcs]; rfl
  have q12 : cs[12]? = some (.slice r.d.A r.d.z.size r.d.c) := by rw [hcs]; rfl
  have Q8 := Lib.hid q8
  have Q9 := Lib.hid q9
  have Q12 := Lib.hid q12
  have HF0 : Hid (farK r 0 r.o.z.size) := by
    show _ ↔ _
    constructor
    · intro h; exact Or.inl (by omega)
    · rintro (h | ⟨i, hi, _⟩)
      · omega
      · omega
  clear hr q8 q9 q12
  have hgoal : ∀ y : Array Value, cs = y → Calls Tryz.prog 21 #[.agg y] w fun e w' => e = .returned (.bool (wideB r)) ∧ Below w.heap.size w w' := by
    rintro _ rfl
    simp only [encP] at hcs
    have HX := Lib.hid (BoxR.init w cs 35)
    have c8 := HX.out.at_ 8 Q8.out
    have c9 := HX.out.at_ 9 Q9.out
    rw [hcs]
    go_enter Tryz.func21, Tryz.ntmps21
    rw [← hcs]
    clear hcs
    go_wp2
    clear c8 c9
    go_loopw [3, 14] (fun v i wr => ∃ (k : Nat) (m : Int), v = .int .i64 m ∧ i = .int .i64 k ∧ k ≤ r.k.z.size ∧ Hid (farK r k m) ∧ Hid (BoxR w cs 35 wr)) (fun _ i _ => r.k.z.size - (intOf i).toNat)
    case atStart => exact ⟨0, _, rfl, rfl, Nat.zero_le _, HF0, HX⟩
    case round =>
      obtain ⟨k, m, rfl, rfl, hk, HF, HX⟩ := hrel
      by_cases hlt : k < r.k.z.size
      · have kz : (k : Int) < (r.k.z.size : Int) := by omega
        obtain ⟨b, off, hA, hbl, f⟩ := (HR.out.below HX.out.b).k.rd.at_ (i := k) hlt
        have HS := Lib.hid (fun a b m' => @farK_step r k a b m m' HF.out)
        obtain ⟨x, hx⟩ : ∃ x, r.k.z[k]! = x := ⟨_, rfl⟩
        rw [hx] at f HS
        have e0 := f 0 (by omega)
        have e1 := f 1 (by omega)
        have e2 := f 2 (by omega)
        have hA' : r.k.A = some ⟨b, off, none⟩ := hA
        rw [hA']
        clear hx f hA HF
        simp only [Nat.add_zero, encKE, List.getElem!_cons_zero, List.getElem!_cons_succ] at e0 e1 e2
        have HBX := Lib.hid (HX.out.next (bel1 wr (.cells #[.int .i64 x.base, .slice x.r.A x.r.z.size x.r.c, .slice x.a.A x.a.z.size x.a.c] 81)))
        go_wp2
        all_goals exact ⟨⟨k + 1, _, rfl, by go_num, by omega, Lib.hid (HS.out _ _ _ rfl rfl (by omega)), HBX⟩, by simp [intOf]; omega⟩
      · have hlt' : decide ((k : Int) < (r.k.z.size : Int)) = false := decide_eq_false (by omega)
        obtain rfl : k = r.k.z.size := by omega
        have HF1 : Hid (farD r 0 m) := by
          show _ ↔ _
          rw [show (500 < m ↔ _) from HF.out]
          constructor
          · intro h; exact Or.inl h
          · rintro (h | ⟨i, hi, _⟩)
            · exact h
            · omega
        have c12 := HX.out.at_ 12 Q12.out
        go_wp2
        clear c12
        obtain ⟨w2, HW2⟩ : ∃ W, Hid (W = wr) := ⟨wr, Lib.hid rfl⟩
        go_loopw [3, 30] (fun v i wq => ∃ (k : Nat) (m : Int), v = .int .i64 m ∧ i = .int .i64 k ∧ k ≤ r.d.z.size ∧ Hid (farD r k m) ∧ Hid (wq = w2)) (fun _ i _ => r.d.z.size - (intOf i).toNat)
        case atStart => exact ⟨0, _, rfl, rfl, Nat.zero_le _, HF1, Lib.hid HW2.out.symm⟩
        case round =>
          rw [← HW2.out] at HX
          obtain ⟨k, m, rfl, rfl, hk, HF, HQ⟩ := hrel
          obtain rfl := HQ.out
          by_cases hlt : k < r.d.z.size
          · have kz : (k : Int) < (r.d.z.size : Int) := by omega
            obtain ⟨b, off, hA, hbl, f⟩ := (HR.out.below HX.out.b).d.rd.at_ (i := k) hlt
            have HS := Lib.hid (fun a m' => @farD_step r k a m m' HF.out)
            obtain ⟨x, hx⟩ : ∃ x, r.d.z[k]! = x := ⟨_, rfl⟩
            rw [hx] at f HS
            have e0 := f 0 (by omega)
            have hA' : r.d.A = some ⟨b, off, none⟩ := hA
            rw [hA']
            clear hx f hA HF
            simp only [Nat.add_zero, Nat.mul_one, encW, RW.v, List.getElem!_cons_zero] at e0
            go_wp2
            all_goals exact ⟨⟨k + 1, _, rfl, by go_num, by omega, Lib.hid (HS.out _ _ rfl (by omega)), Lib.hid (by first | rfl | trivial)⟩, by simp [intOf]; omega⟩
          · have hlt' : decide ((k : Int) < (r.d.z.size : Int)) = false := decide_eq_false (by omega)
            obtain rfl : k = r.d.z.size := by omega
            have HE := Lib.hid (HV.out m HF.out)
            go_wp2
            go_ret
            exact ⟨ret_bool HE.out, HX.out.b⟩
  exact hgoal _ hcs
end Go.Proofs.YtnmojicfmcbgmaaGreatDoor
namespace Go.Proofs.YtnmojicfmcbgmaaGreatDoor
open Go.RowKit Go.Sort Go.Lib
set_option maxRecDepth 100000
attribute [local go_sem ↓] execOp_loadRep execOp_storeRep
attribute [local go_sem] run_loadBox run_storeBox_any run_storeBox_newA allOne_lit size_lit
theorem kes_succ (k : Nat) : kes (k + 1) = (kes k).push ke0 := by
  unfold kes
  rw [List.replicate_succ', List.push_toArray]
theorem rws_succ (k : Nat) : rws (k + 1) = (rws k).push ⟨none, 0, #[]⟩ := by
  unfold rws
  rw [List.replicate_succ', List.push_toArray]
theorem kes_size (k : Nat) : (kes k).size = k := by simp [kes]
theorem rws_size (k : Nat) : (rws k).size = k := by simp [rws]
/-- The box's cells. -/
def nbC (N : Nat) (f me : Int) (vK vM vF vD : Value) : Array Value := #[.int .i64 (N : Int), .int .i64 f, .int .i64 me, .int .i64 0, .int .i64 0, .int .i64 0, .int .i64 0, .slice none 0 0, .slice none 0 0, vK, vM, vF, vD, .int .i64 0, .int .i64 0, .int .i64 0, .slice none 0 0, .slice none 0 0]
/-- A replica that is being made: its box lies at g, its rows from B on; what lay between is as it was in w1. -/
structure NewW (g B : Nat) (w w1 : World) (zs0 : Array Value) (N : Nat) (f me : Int) (vM : Value) (vK : Value) (kK : Nat) (vF : Value) (kF : Nat) (vD : Value) (kD : Nat) (W : World) : Prop where
  row : W.heap[g]? = some (.cells (nbC N f me vK vM vF vD) 35 (0, 0))
  res : W.heap[w.heap.size]? = some (.cells zs0 35 (0, 0))
  oK : W.ownsRow B 81 3 vK kK (flatK encKE 3 (kes kK)).toList
  oF : W.ownsRow B 3 1 vF kF ((zs kF).map (Value.int .i64))
  oD : W.ownsRow B 79 1 vD kD (flatK encW 1 (rws kD)).toList
  kp : ∀ j, g < j → j < B → W.heap[j]? = w1.heap[j]?
  b : Below w.heap.size w W
  sz : B ≤ W.heap.size
  hg : w.heap.size < g
  gB : g < B
section
variable {g B : Nat} {w w1 : World} {zs0 : Array Value} {N : Nat} {f me : Int} {vM vK vF vD : Value} {kK kF kD : Nat} {W w3 : World}
theorem NewW.cell (h : NewW g B w w1 zs0 N f me vM vK kK vF kF vD kD W) (j : Nat) {u : Value} (hj : (nbC N f me vK vM vF vD)[j]? = some u) : W.cell? ⟨g, j, none⟩ = some u := by
  rw [cell_of_row W g j _ _ (0, 0) h.row]; exact hj
/-- Some row of its own has grown. -/
theorem NewW.grow (h : NewW g B w w1 zs0 N f me vM vK kK vF kF vD kD W) {o : Obj} {v : Value} {e : TypeId} {s n : Nat} {xs : List Value} (hv : W.ownsRow B e s v n xs) (hg : (W.alloc o).grownBy w3 v.ownBlock) :
    w3.heap[g]? = some (.cells (nbC N f me vK vM vF vD) 35 (0, 0)) ∧ w3.heap[w.heap.size]? = some (.cells zs0 35 (0, 0)) ∧ (∀ j, g < j → j < B → w3.heap[j]? = w1.heap[j]?) ∧ Below w.heap.size w w3 ∧ B ≤ w3.heap.size := by
  have hlt := hv.lt
  have key : ∀ j, j < B → w3.heap[j]? = W.heap[j]? := fun j hj => by
    have hs := h.sz
    rw [hg.block j (by simp; omega) (fun he => by have := (hlt j he.symm).1; omega)]
    exact heap_alloc_old W o (by omega)
  have h1 := h.hg
  have h2 := h.gB
  refine ⟨(key g h2).trans h.row, (key _ (by omega)).trans h.res, fun j a b => (key j b).trans (h.kp j a b), ⟨hg.os.trans h.b.os, hg.tape.trans h.b.tape, hg.output.trans h.b.output, ?_, fun j hj => (key j (by omega)).trans (h.b.block j hj)⟩, ?_⟩
  · have := hg.size
    have := h.b.size
    simp at *
    omega
  · have := hg.size
    have := h.sz
    simp at *
    omega
theorem NewW.alloc (h : NewW g B w w1 zs0 N f me vM vK kK vF kF vD kD W) (o : Obj) : NewW g B w w1 zs0 N f me vM vK kK vF kF vD kD (W.alloc o) :=
  ⟨blk_alloc h.row, blk_alloc h.res, h.oK.alloc o, h.oF.alloc o, h.oD.alloc o, fun j a b => (heap_alloc_old W o (by have := h.sz; omega)).trans (h.kp j a b), belAlloc h.b o, by have := h.sz; simp; omega, h.hg, h.gB⟩
theorem own_setB {e : TypeId} {s n : Nat} {v : Value} {xs : List Value} (h : W.ownsRow B e s v n xs) (hg : g < B) (j : Nat) (u : Value) : (W.setCell ⟨g, j, none⟩ u).ownsRow B e s v n xs :=
  own_same h (Nat.le_refl _) (fun i hi _ => heap_setCell_other W ⟨g, j, none⟩ i u (by simp; omega))
theorem NewW.putK (h : NewW g B w w1 zs0 N f me vM vK kK vF kF vD kD W) {o : Obj} {v' : Value} (hg : (W.alloc o).grownBy w3 vK.ownBlock) (ho : w3.ownsRow B 81 3 v' (kK + 1) ((flatK encKE 3 (kes kK)).toList ++ [.int .i64 0, .slice none 0 0, .slice none 0 0])) :
    NewW g B w w1 zs0 N f me vM v' (kK + 1) vF kF vD kD (w3.setCell ⟨g, 9, none⟩ v') := by
  obtain ⟨h1, h2, h3, h4, h5⟩ := h.grow h.oK hg
  have hgB := h.gB
  have hwg := h.hg
  refine ⟨heap_setCell_same w3 g 9 _ _ v' h1, (heap_setCell_other w3 ⟨g, 9, none⟩ _ v' (by simp; omega)).trans h2, own_setB ?_ hgB 9 v', own_setB (own_kinds (h.oK.alloc o) (h.oF.alloc o) (by decide) hg) hgB 9 v', own_setB (own_kinds (h.oK.alloc o) (h.oD.alloc o) (by decide) hg) hgB 9 v',
    fun j a b => (heap_setCell_other w3 ⟨g, 9, none⟩ j v' (by simp; omega)).trans (h3 j a b), h4.setCell (p := ⟨g, 9, none⟩) (by simp; omega) v', by simpa using h5, hwg, hgB⟩
  rw [kes_succ, flatK_push encKE_len]
  exact ho
theorem NewW.putF (h : NewW g B w w1 zs0 N f me vM vK kK vF kF vD kD W) {o : Obj} {v' : Value} (hg : (W.alloc o).grownBy w3 vF.ownBlock) (ho : w3.ownsRow B 3 1 v' (kF + 1) ((zs kF).map (Value.int .i64) ++ [.int .i64 0])) :
    NewW g B w w1 zs0 N f me vM vK kK v' (kF + 1) vD kD (w3.setCell ⟨g, 11, none⟩ v') := by
  obtain ⟨h1, h2, h3, h4, h5⟩ := h.grow h.oF hg
  have hgB := h.gB
  have hwg := h.hg
  refine ⟨heap_setCell_same w3 g 11 _ _ v' h1, (heap_setCell_other w3 ⟨g, 11, none⟩ _ v' (by simp; omega)).trans h2, own_setB (own_kinds (h.oF.alloc o) (h.oK.alloc o) (by decide) hg) hgB 11 v', own_setB ?_ hgB 11 v', own_setB (own_kinds (h.oF.alloc o) (h.oD.alloc o) (by decide) hg) hgB 11 v',
    fun j a b => (heap_setCell_other w3 ⟨g, 11, none⟩ j v' (by simp; omega)).trans (h3 j a b), h4.setCell (p := ⟨g, 11, none⟩) (by simp; omega) v', by simpa using h5, hwg, hgB⟩
  rw [zs_succ, List.map_append]
  exact ho
theorem NewW.putD (h : NewW g B w w1 zs0 N f me vM vK kK vF kF vD kD W) {o : Obj} {v' : Value} (hg : (W.alloc o).grownBy w3 vD.ownBlock) (ho : w3.ownsRow B 79 1 v' (kD + 1) ((flatK encW 1 (rws kD)).toList ++ [.slice none 0 0])) :
    NewW g B w w1 zs0 N f me vM vK kK vF kF v' (kD + 1) (w3.setCell ⟨g, 12, none⟩ v') := by
  obtain ⟨h1, h2, h3, h4, h5⟩ := h.grow h.oD hg
  have hgB := h.gB
  have hwg := h.hg
  refine ⟨heap_setCell_same w3 g 12 _ _ v' h1, (heap_setCell_other w3 ⟨g, 12, none⟩ _ v' (by simp; omega)).trans h2, own_setB (own_kinds (h.oD.alloc o) (h.oK.alloc o) (by decide) hg) hgB 12 v', own_setB (own_kinds (h.oD.alloc o) (h.oF.alloc o) (by decide) hg) hgB 12 v', own_setB ?_ hgB 12 v',
    fun j a b => (heap_setCell_other w3 ⟨g, 12, none⟩ j v' (by simp; omega)).trans (h3 j a b), h4.setCell (p := ⟨g, 12, none⟩) (by simp; omega) v', by simpa using h5, hwg, hgB⟩
  rw [rws_succ, flatK_push encW_len]
  exact ho
end
theorem sli_of {w : World} {B s n : Nat} {e : TypeId} {v : Value} {xs : List Value} (h : w.ownsRow B e s v n xs) : ∃ A c, v = .slice A n c := by
  obtain ⟨_, ⟨e, h0⟩ | ⟨_, _, _, e, _⟩⟩ := h
  · exact ⟨none, 0, by rw [h0]; exact e⟩
  · exact ⟨_, _, e⟩
/-- What was made is a replica that is made. -/
theorem NewW.done {g B : Nat} {w w1 W W' : World} {zs0 : Array Value} {N : Nat} {f me : Int} {vM vK vF vD : Value} (hp : newP (N : Int) f me) (h : NewW g B w w1 zs0 N f me vM vK N vF N vD N W) (hB : B ≤ w1.heap.size) (hm : OwnZ (g + 1) w1 vM N) (hm2 : w1.heap.size ≤ B) (ho : ∀ j, g < j → W'.heap[j]? = W.heap[j]?) :
    NewQ (N : Int) f me (.returned (.tuple #[.agg (nbC N f me vK vM vF vD), .int .i64 0])) W' := by
  have hgB := h.gB
  obtain ⟨xK, eK, zK, rK⟩ := rdW_of_owns (d := kes N) (en := encKE) (by rw [kes_size]; exact own_same (W := W') h.oK (B0 := g + 1) (by omega) (fun j hj _ => ho j (by omega)))
  obtain ⟨xF, eF, zF, rF⟩ := rdJ_of_owns (l := zs N) (by rw [zs_len]; exact own_same (W := W') h.oF (B0 := g + 1) (by omega) (fun j hj _ => ho j (by omega)))
  obtain ⟨xD, eD, zD, rD⟩ := rdW_of_owns (d := rws N) (en := encW) (by rw [rws_size]; exact own_same (W := W') h.oD (B0 := g + 1) (by omega) (fun j hj _ => ho j (by omega)))
  obtain ⟨xM, eM, zM, rM⟩ := (hm.same (W := W') (fun j hj hl => (ho j (by omega)).trans (h.kp j (by omega) (by omega)))).rd
  subst eK eF eD eM
  refine ⟨⟨(N : Int), f, me, 0, 0, 0, 0, ⟨none, 0, #[]⟩, ⟨none, 0, #[]⟩, xK, xM, xF, xD, 0, 0, 0, ⟨none, 0, #[]⟩, ⟨none, 0, #[]⟩⟩, ?_, ?_, ?_⟩
  · rw [if_pos hp]
    rfl
  · rw [if_pos hp, Int.toNat_natCast]
    refine ⟨⟨rfl, rfl, rfl, rfl, rfl, rfl, rfl, rfl, rfl, rfl⟩, rfl, rfl, ?_, zM, zF, ?_, rfl, rfl⟩
    · show xK.z.size = N ∧ ∀ i, i < N → xK.z[i]!.kn = _
      rw [zK]
      exact ⟨kes_size N, fun i hi => by rw [show (kes N)[i]! = ke0 from rep_get N i _ hi]; rfl⟩
    · show xD.z.size = N ∧ ∀ i, i < N → xD.z[i]!.z = _
      rw [zD]
      exact ⟨rws_size N, fun i hi => by rw [show (rws N)[i]! = ⟨none, 0, #[]⟩ from rep_get N i _ hi]⟩
  · refine ⟨⟨fun h => absurd h (Nat.not_lt_zero _), fun i hi => absurd hi (Nat.not_lt_zero i)⟩, rdN_none _ _ _, rK, fun i hi => ?_, rM.1, rM.2, rF, rD, fun i hi => ?_, rdW_none _ _ _, rdW_none _ _ _⟩
    · have hi' : i < xK.z.size := hi
      show RdKE W' xK.z[i]!
      rw [zK] at hi' ⊢
      rw [kes_size] at hi'
      rw [show (kes N)[i]! = ke0 from rep_get N i _ hi']
      exact ⟨rdN_none _ _ _, rdN_none _ _ _⟩
    · have hi' : i < xD.z.size := hi
      show RdW encR 2 W' xD.z[i]!
      rw [zD] at hi' ⊢
      rw [rws_size] at hi'
      rw [show (rws N)[i]! = ⟨none, 0, #[]⟩ from rep_get N i _ hi']
      exact rdW_none _ _ _
theorem three_one (w : World) (a b : Array Value) (t u : TypeId) (_ : True) : ((w.alloc (.cells a t)).alloc (.cells b u)).heap[w.heap.size]? = some (.cells a t (0, 0)) := blk_alloc (heap_alloc_new w _)
theorem three_two (w : World) (a b : Array Value) (t u : TypeId) (_ : True) : ((w.alloc (.cells a t)).alloc (.cells b u)).heap[w.heap.size + 1]? = some (.cells b u (0, 0)) := heap_alloc2_new w _ _
theorem newL_set (W : World) (a : Addr) (v : Value) (l : List Value) (t : TypeId) (s : Nat) (hs : (W.setCell a v).heap.size = s) : ∀ j u, l[j]? = some u → ((W.setCell a v).alloc (.cells l.toArray t)).cell? ((⟨s, 0, none⟩ : Addr).add j) = some u := hs ▸ newL _ _ _
theorem own_k0 (W : World) (B : Nat) : W.ownsRow B 81 3 (.slice none 0 0) 0 (flatK encKE 3 (kes 0)).toList := by
  have e : kes 0 = #[] := rfl
  rw [e]
  exact nil_ownsK _ _ _ _ _
theorem own_d0 (W : World) (B : Nat) : W.ownsRow B 79 1 (.slice none 0 0) 0 (flatK encW 1 (rws 0)).toList := by
  have e : rws 0 = #[] := rfl
  rw [e]
  exact nil_ownsK _ _ _ _ _
def zer18 : Array Value := #[.int .i64 0, .int .i64 0, .int .i64 0, .int .i64 0, .int .i64 0, .int .i64 0, .int .i64 0, .slice none 0 0, .slice none 0 0, .slice none 0 0, .slice none 0 0, .slice none 0 0, .slice none 0 0, .int .i64 0, .int .i64 0, .int .i64 0, .slice none 0 0, .slice none 0 0]
set_option maxHeartbeats 16000000 in
theorem rStNew_any (n f me : Int) (w : World) : Calls Tryz.prog 19 #[.int .i64 n, .int .i64 f, .int .i64 me] w fun e w' => NewQ n f me e w' ∧ Below w.heap.size w w' := by
  have hE := fastN_0 n f
  have HSZ := Lib.hid (fun W => szRef_any n f W)
  by_cases hP : newP n f me
  · obtain ⟨h1, h2, h3⟩ := hP
    have h1' := h1
    unfold sizeP at h1'
    have HP : Hid (newP n f me) := ⟨h1, h2, h3⟩
    have e0 : (fastN n f == 0) = false := beq_eq_false_iff_ne.2 (hE.2 h1)
    obtain ⟨N, rfl⟩ : ∃ N : Nat, n = (N : Int) := ⟨n.toNat, by omega⟩
    have hN9 : N ≤ 9 := by omega
    have HN := Lib.hid (fun W => rSwNew_ok N W (by omega) (by omega))
    have e2 : decide (me < 1) = false := decide_eq_false (by omega)
    have e3 : decide ((N : Int) < me) = false := decide_eq_false (by omega)
    generalize fastN (N : Int) f = z1 at HSZ e0
    generalize slowN (N : Int) f = z2 at HSZ
    generalize backN (N : Int) f = z3 at HSZ
    clear h1 h1' h2 h3 hE
    go_enter Tryz.func19, Tryz.ntmps19
    go_wp2_with (first
      | (go_at_call 60; refine (HSZ.out _).mono ?_; rintro _ _ ⟨rfl, rfl⟩)
      | (go_at_call 61; refine (HN.out _).mono ?_; rintro _ w1 ⟨⟨vM, rfl, ho⟩, hb⟩; have HO := Lib.hid ho; have HB := Lib.hid hb; obtain ⟨AM, cM, rfl⟩ : ∃ A c, vM = .slice A N c := (by obtain ⟨L, hl, h1, _⟩ := ho; rw [← hl]; exact sli_of h1); clear ho hb;
         have hsz1 : w.heap.size + 1 + 1 ≤ w1.heap.size := (by have := HB.out.size; simpa using this);
         have hrow := (HB.out.block (w.heap.size + 1) (by simp)).trans (three_two _ _ _ _ _ trivial); have hrow0 := (HB.out.block w.heap.size (by simp; omega)).trans (three_one _ _ _ _ _ trivial);
         have c10 : w1.cell? ⟨w.heap.size + 1, 10, none⟩ = some (.slice none 0 0) := (cell_of_row w1 (w.heap.size + 1) 10 _ _ (0, 0) hrow).trans rfl; have f10 : w1.frozen? ⟨w.heap.size + 1, 10, none⟩ = false := (by simp [World.frozen?, hrow]); have HR := Lib.hid hrow; have HR0 := Lib.hid hrow0; clear hrow hrow0))
    have HW0 : Hid (NewW (w.heap.size + 1) w1.heap.size w w1 zer18 N f me (.slice AM N cM) (.slice none 0 0) 0 (.slice none 0 0) 0 (.slice none 0 0) 0 (w1.setCell ⟨w.heap.size + 1, 10, none⟩ (.slice AM N cM))) :=
      ⟨heap_setCell_same w1 _ 10 _ _ _ HR.out, (heap_setCell_other w1 ⟨w.heap.size + 1, 10, none⟩ _ _ (by simp)).trans HR0.out, own_k0 _ _, World.ownsRow_nil _ _ _ _, own_d0 _ _, fun j a b => heap_setCell_other w1 ⟨w.heap.size + 1, 10, none⟩ j _ (by simp; omega), ((belStep (belAlloc (bel1 w _) _) HB.out)).setCell (p := ⟨w.heap.size + 1, 10, none⟩) (by simp) _, by simp, Nat.lt_succ_self _, by omega⟩
    obtain ⟨ws, hws⟩ : ∃ W, W = w1.setCell ⟨w.heap.size + 1, 10, none⟩ (.slice AM N cM) := ⟨_, rfl⟩
    rw [← hws] at HW0 ⊢
    obtain ⟨g, hg⟩ : ∃ g, w.heap.size + 1 = g := ⟨_, rfl⟩
    rw [hg] at HW0 ⊢
    have HG := Lib.hid hg
    obtain ⟨i0, hi0, hz0, hz1, hz2⟩ := info_parts kno_info
    obtain ⟨j0, hj0, hy0, hy1, hy2⟩ := info_parts int_info_R
    obtain ⟨k0, hk0, hx0, hx1, hx2⟩ := info_parts rngs_info
    clear hws c10 f10 hg
    go_loopw [12] (fun i wr => ∃ (k : Nat) (vK vF vD : Value), i = .int .i64 k ∧ k ≤ N ∧ Hid (NewW g w1.heap.size w w1 zer18 N f me (.slice AM N cM) vK k vF k vD k wr)) (fun i _ => N - (intOf i).toNat)
    case atStart => exact ⟨0, _, _, _, rfl, Nat.zero_le _, HW0⟩
    case round =>
      obtain ⟨k, vK, vF, vD, rfl, hk, HW⟩ := hrel
      by_cases hlt : k < N
      · have kz : (k : Int) < (N : Int) := by omega
        have c9 := HW.out.cell 9 (u := vK) rfl
        have hsz := HW.out.sz
        go_wp2_with (first
          | (at_builtin; refine wpList_append_own _ rfl _ _ 24 rfl w1.heap.size 81 i0 (.agg #[.int .i64 0, .slice none 0 0, .slice none 0 0]) 3 56 Tryz.underlying24 hi0 hz0 hz1 hz2 rfl (by decide) _ _ _ rfl (HW.out.oK.alloc _) ⟨wr.heap.size, 0, none⟩ 1 1 [.int .i64 0, .slice none 0 0, .slice none 0 0] rfl rfl (newL wr _ _) (by simp [Value.oneCell']) (by unfold maxLen; omega) (by omega) (by simp; omega) ?_; intro vK' w3 hown3 hgrow _;
             obtain ⟨AK3, cK3, rfl⟩ := sli_of hown3; have HW3 := Lib.hid (HW.out.putK hgrow hown3); have r3 := (HW.out.grow HW.out.oK hgrow).1; have c9 : w3.cell? ⟨g, 9, none⟩ = some vK := (cell_of_row w3 g 9 _ _ (0, 0) r3).trans rfl; have f9 : w3.frozen? ⟨g, 9, none⟩ = false := (by simp [World.frozen?, r3]); have c11 : w3.cell? ⟨g, 11, none⟩ = some vF := (cell_of_row w3 g 11 _ _ (0, 0) r3).trans rfl; have hsz := HW3.out.sz)
          | (at_builtin; refine wpList_append_own _ rfl _ _ 26 rfl w1.heap.size 3 j0 (.int .i64 0) 1 8 Tryz.underlying26 hj0 hy0 hy1 hy2 rfl (by decide) _ _ _ rfl (HW3.out.oF.alloc _) ⟨w3.heap.size, 0, none⟩ 1 1 [.int .i64 0] rfl rfl (newL_set _ _ _ _ _ _ (by simp)) (by simp [Value.oneCell']) (by unfold maxLen; omega) (by omega) (by simp at hsz ⊢; omega) ?_; intro vF' w4 hown4 hgrow4 _;
             obtain ⟨AF4, cF4, rfl⟩ := sli_of hown4; have HW4 := Lib.hid (HW3.out.putF hgrow4 hown4); have r4 := (HW3.out.grow HW3.out.oF hgrow4).1; have c11 : w4.cell? ⟨g, 11, none⟩ = some vF := (cell_of_row w4 g 11 _ _ (0, 0) r4).trans rfl; have f11 : w4.frozen? ⟨g, 11, none⟩ = false := (by simp [World.frozen?, r4]); have c12 : w4.cell? ⟨g, 12, none⟩ = some vD := (cell_of_row w4 g 12 _ _ (0, 0) r4).trans rfl; have hsz4 := HW4.out.sz)
          | (at_builtin; refine wpList_append_own _ rfl _ _ 27 rfl w1.heap.size 79 k0 (.slice none 0 0) 1 24 Tryz.underlying27 hk0 hx0 hx1 hx2 rfl (by decide) _ _ _ rfl (HW4.out.oD.alloc _) ⟨w4.heap.size, 0, none⟩ 1 1 [.slice none 0 0] rfl rfl (newL_set _ _ _ _ _ _ (by simp)) (by simp [Value.oneCell']) (by unfold maxLen; omega) (by omega) (by simp at hsz4 ⊢; omega) ?_; intro vD' w5 hown5 hgrow5 _;
             obtain ⟨AD5, cD5, rfl⟩ := sli_of hown5; have HW5 := Lib.hid (HW4.out.putD hgrow5 hown5); have r5 := (HW4.out.grow HW4.out.oD hgrow5).1; have c12 : w5.cell? ⟨g, 12, none⟩ = some vD := (cell_of_row w5 g 12 _ _ (0, 0) r5).trans rfl; have f12 : w5.frozen? ⟨g, 12, none⟩ = false := (by simp [World.frozen?, r5])))
        go_roundw
        case rel => exact ⟨k + 1, _, _, _, by go_num, by omega, HW5⟩
        case measure => simp [intOf]; omega
      · have hlt' : decide ((k : Int) < (N : Int)) = false := decide_eq_false (by omega)
        obtain rfl : k = N := by omega
        obtain ⟨AK, cK, rfl⟩ := sli_of HW.out.oK
        obtain ⟨AF, cF, rfl⟩ := sli_of HW.out.oF
        obtain ⟨AD, cD, rfl⟩ := sli_of HW.out.oD
        have x1 := boxAt_of HW.out.row (n := 18) rfl
        have x2 := rowAt_of HW.out.row
        unfold nbC at x2
        have y1 := boxAt_of HW.out.res (n := 18) rfl
        have HQ := Lib.hid (fun W' ho => HW.out.done (W' := W') HP.out (Nat.le_refl _) (by
          have h := HO.out
          simp only [World.alloc, Array.size_push, HG.out] at h
          exact h) (Nat.le_refl _) ho)
        have HRES := Lib.hid HW.out.res
        have HBW := Lib.hid HW.out.b
        go_wp2
        refine bodyPost_ret (results_rep2 rfl rfl (setRow_heap _ _ _ _ _ _ HRES.out) rfl) rfl ?_
        refine ⟨HQ.out _ (fun j hj => setRow_other _ _ j _ (by have := HG.out; omega)), HBW.out.trans ⟨rfl, rfl, rfl, by simp, fun j hj => setRow_other _ _ j _ (by omega)⟩⟩
  · have HF := Lib.hid (newQ_none hP)
    by_cases h1 : sizeP n f
    · have e0 : (fastN n f == 0) = false := beq_eq_false_iff_ne.2 (hE.2 h1)
      generalize fastN n f = z1 at HSZ e0
      generalize slowN n f = z2 at HSZ
      generalize backN n f = z3 at HSZ
      by_cases h2 : 1 ≤ me
      · have h3 : ¬ me ≤ n := fun h3 => hP ⟨h1, h2, h3⟩
        have e2 : decide (me < 1) = false := decide_eq_false (by omega)
        have e3 : decide (n < me) = true := decide_eq_true (by omega)
        clear hP h1 h2 h3 hE
        go_enter Tryz.func19, Tryz.ntmps19
        go_wp2_with (go_at_call 60; refine (HSZ.out _).mono ?_; rintro _ _ ⟨rfl, rfl⟩)
        refine bodyPost_ret (results_rep2 rfl rfl (heap_alloc_new _ _) rfl) rfl ?_
        exact ⟨HF.out _, bel1 _ _⟩
      · have e2 : decide (me < 1) = true := decide_eq_true (by omega)
        clear hP h1 h2 hE
        go_enter Tryz.func19, Tryz.ntmps19
        go_wp2_with (go_at_call 60; refine (HSZ.out _).mono ?_; rintro _ _ ⟨rfl, rfl⟩)
        refine bodyPost_ret (results_rep2 rfl rfl (heap_alloc_new _ _) rfl) rfl ?_
        exact ⟨HF.out _, bel1 _ _⟩
    · have e0 : (fastN n f == 0) = true := beq_iff_eq.2 (Classical.byContradiction fun h => h1 (hE.1 h))
      generalize fastN n f = z1 at HSZ e0
      generalize slowN n f = z2 at HSZ
      generalize backN n f = z3 at HSZ
      clear hP h1 hE
      go_enter Tryz.func19, Tryz.ntmps19
      go_wp2_with (go_at_call 60; refine (HSZ.out _).mono ?_; rintro _ _ ⟨rfl, rfl⟩)
      refine bodyPost_ret (results_rep2 rfl rfl (heap_alloc_new _ _) rfl) rfl ?_
      exact ⟨HF.out _, bel1 _ _⟩
end Go.Proofs.YtnmojicfmcbgmaaGreatDoor
namespace Go.Proofs.YtnmojicfmcbgmaaGreatDoor
open Go.ChangeShapes Go.WideShapes Go.ChangeAt Go.RowKit Go.Deep Go.Joins
set_option maxRecDepth 100000
section
variable {H : Type} {enc : TypeId × Value → H} {P : Program} {w : World} {base : Nat} {sp : Nat → Bool} {held : Bool}
/-- The fields of a struct, each read by itself. -/
theorem trod_parts {t : TypeId} {fs : Array Field} {n : Nat} {cs : List Value} {x : DataW H × List MemPlace} (hs : P.underlying t = some (.struct fs))
    (h : DataW.trod enc P w base sp held n t cs = some x) : cs.length = P.cellsOf t ∧ ∀ (j o : Nat) (u : TypeId), (fs[j]?).map (fun f => (f.offset, f.type)) = some (o, u) → ∃ y m, DataW.trod enc P w base sp held m u ((cs.drop o).take (P.cellsOf u)) = some y := by
  obtain ⟨xs, m, _, _, hcl, hlen, hg⟩ := DataW.trod_struct hs h
  refine ⟨hcl, fun j o u hj => ?_⟩
  obtain ⟨f, hf1, hf2⟩ := Option.map_eq_some_iff.1 hj
  injection hf2 with e1 e2
  have hjl : j < fs.size := (Array.getElem?_eq_some_iff.1 hf1).1
  have h1 := hg j f hf1
  rw [e1, e2] at h1
  have hys : xs[j]? = some (xs[j]'(by omega)) := List.getElem?_eq_getElem (by omega)
  exact ⟨xs[j]'(by omega), m, h1.trans hys⟩
theorem trod_slice1 {t e : TypeId} {n : Nat} {cs : List Value} {x : DataW H × List MemPlace} (ht : P.underlying t = some (.slice e)) (h : DataW.trod enc P w base sp held n t cs = some x) : ∃ v, cs = [v] := by
  rcases DataW.trod_slice ht h with ⟨hcs, _⟩ | ⟨a, len, cap, _, _, _, _, hcs, _⟩
  · exact ⟨_, hcs⟩
  · exact ⟨_, hcs⟩
end
theorem cellsInt : Tryz.prog.cellsOf 3 = 1 := by kernel_rfl
section
variable {H : Type} {enc : TypeId × Value → H} {w : World}
theorem rdI_of_J {B : Nat} {w : World} {A : Option Addr} {d : Array Int} (h : RdK encJ_T 1 B w A d) : RdI_R B w A d := fun h0 => by
  obtain ⟨b, off, e, hlt, hc⟩ := h h0
  refine ⟨b, off, e, hlt, fun i hi => ?_⟩
  rw [hc i (by omega), Go.Sort.get_flatK _ _ _ _ (by omega), Nat.mod_one, Nat.div_one]
  rfl
theorem prRUnd : Tryz.prog.underlying 141 = some (.struct (Tryz.prog.fieldsOf 141)) := by kernel_rfl
theorem prRTys : (Tryz.prog.fieldsOf 141).map (fun f => (f.offset, f.type)) = #[(0, 3), (1, 3)] := by kernel_rfl
theorem prRCel : Tryz.prog.cellsOf 141 = 2 := by kernel_rfl
theorem trod_prR {n : Nat} {cs : List Value} {x : DataW H × List MemPlace} (h : DataW.trod enc Tryz.prog w 0 (fun _ => true) true n 141 cs = some x) : ∃ a : Int × Int, cs = encR a ∧ True := by
  obtain ⟨hl, hf⟩ := trod_parts prRUnd h
  rw [prRCel] at hl
  have hty : ∀ j o u, (#[(0, 3), (1, 3)] : Array (Nat × TypeId))[j]? = some (o, u) → ∃ y m, DataW.trod enc Tryz.prog w 0 (fun _ => true) true m u ((cs.drop o).take (Tryz.prog.cellsOf u)) = some y := fun j o u hj => hf j o u (by rw [← prRTys, Array.getElem?_map] at hj; exact hj)
  clear hf h
  obtain ⟨c0, cs, rfl⟩ := List.exists_cons_of_length_eq_add_one hl
  have hl := Nat.succ.inj hl
  obtain ⟨c1, cs, rfl⟩ := List.exists_cons_of_length_eq_add_one hl
  have hl := Nat.succ.inj hl
  obtain rfl : cs = [] := List.eq_nil_of_length_eq_zero hl
  obtain ⟨_, _, g0⟩ := hty 0 0 _ rfl
  rw [cellsInt] at g0
  obtain ⟨x0, rfl⟩ := trod_cell_int Tryz.underlying3 (g0 : DataW.trod _ _ _ _ _ _ _ _ [c0] = some _)
  obtain ⟨_, _, g1⟩ := hty 1 1 _ rfl
  rw [cellsInt] at g1
  obtain ⟨x1, rfl⟩ := trod_cell_int Tryz.underlying3 (g1 : DataW.trod _ _ _ _ _ _ _ _ [c1] = some _)
  exact ⟨(x0, x1), rfl, trivial⟩
theorem prAUnd : Tryz.prog.underlying 29 = some (.struct (Tryz.prog.fieldsOf 29)) := by kernel_rfl
theorem prATys : (Tryz.prog.fieldsOf 29).map (fun f => (f.offset, f.type)) = #[(0, 3), (1, 3)] := by kernel_rfl
theorem prACel : Tryz.prog.cellsOf 29 = 2 := by kernel_rfl
theorem trod_prA {n : Nat} {cs : List Value} {x : DataW H × List MemPlace} (h : DataW.trod enc Tryz.prog w 0 (fun _ => true) true n 29 cs = some x) : ∃ a : Int × Int, cs = encA_I a ∧ True := by
  obtain ⟨hl, hf⟩ := trod_parts prAUnd h
  rw [prACel] at hl
  have hty : ∀ j o u, (#[(0, 3), (1, 3)] : Array (Nat × TypeId))[j]? = some (o, u) → ∃ y m, DataW.trod enc Tryz.prog w 0 (fun _ => true) true m u ((cs.drop o).take (Tryz.prog.cellsOf u)) = some y := fun j o u hj => hf j o u (by rw [← prATys, Array.getElem?_map] at hj; exact hj)
  clear hf h
  obtain ⟨c0, cs, rfl⟩ := List.exists_cons_of_length_eq_add_one hl
  have hl := Nat.succ.inj hl
  obtain ⟨c1, cs, rfl⟩ := List.exists_cons_of_length_eq_add_one hl
  have hl := Nat.succ.inj hl
  obtain rfl : cs = [] := List.eq_nil_of_length_eq_zero hl
  obtain ⟨_, _, g0⟩ := hty 0 0 _ rfl
  rw [cellsInt] at g0
  obtain ⟨x0, rfl⟩ := trod_cell_int Tryz.underlying3 (g0 : DataW.trod _ _ _ _ _ _ _ _ [c0] = some _)
  obtain ⟨_, _, g1⟩ := hty 1 1 _ rfl
  rw [cellsInt] at g1
  obtain ⟨x1, rfl⟩ := trod_cell_int Tryz.underlying3 (g1 : DataW.trod _ _ _ _ _ _ _ _ [c1] = some _)
  exact ⟨(x0, x1), rfl, trivial⟩
theorem keUnd : Tryz.prog.underlying 81 = some (.struct (Tryz.prog.fieldsOf 81)) := by kernel_rfl
theorem keTys : (Tryz.prog.fieldsOf 81).map (fun f => (f.offset, f.type)) = #[(0, 3), (1, 79), (2, 23)] := by kernel_rfl
theorem keCel : Tryz.prog.cellsOf 81 = 3 := by kernel_rfl
theorem trod_ke {n : Nat} {cs : List Value} {x : DataW H × List MemPlace} (h : DataW.trod enc Tryz.prog w 0 (fun _ => true) true n 81 cs = some x) : ∃ a : KE, cs = encKE a ∧ RdKE w a := by
  obtain ⟨hl, hf⟩ := trod_parts keUnd h
  rw [keCel] at hl
  have hty : ∀ j o u, (#[(0, 3), (1, 79), (2, 23)] : Array (Nat × TypeId))[j]? = some (o, u) → ∃ y m, DataW.trod enc Tryz.prog w 0 (fun _ => true) true m u ((cs.drop o).take (Tryz.prog.cellsOf u)) = some y := fun j o u hj => hf j o u (by rw [← keTys, Array.getElem?_map] at hj; exact hj)
  clear hf h
  obtain ⟨c0, cs, rfl⟩ := List.exists_cons_of_length_eq_add_one hl
  have hl := Nat.succ.inj hl
  obtain ⟨c1, cs, rfl⟩ := List.exists_cons_of_length_eq_add_one hl
  have hl := Nat.succ.inj hl
  obtain ⟨c2, cs, rfl⟩ := List.exists_cons_of_length_eq_add_one hl
  have hl := Nat.succ.inj hl
  obtain rfl : cs = [] := List.eq_nil_of_length_eq_zero hl
  obtain ⟨_, _, g0⟩ := hty 0 0 _ rfl
  rw [cellsInt] at g0
  obtain ⟨x0, rfl⟩ := trod_cell_int Tryz.underlying3 (g0 : DataW.trod _ _ _ _ _ _ _ _ [c0] = some _)
  obtain ⟨_, _, g1⟩ := hty 1 1 _ rfl
  rw [show Tryz.prog.cellsOf 79 = 1 by kernel_rfl] at g1
  obtain ⟨A1, e1, z1, rfl, r1, q1, s1, n1⟩ := trod_row (en := encR) (k := 2) (Q := fun _ => True) Tryz.underlying79 prRCel (fun _ => rfl) (by decide) (fun _ _ _ h => trod_prR h) (g1 : DataW.trod _ _ _ _ _ _ _ _ [c1] = some _)
  obtain ⟨_, _, g2⟩ := hty 2 2 _ rfl
  rw [show Tryz.prog.cellsOf 23 = 1 by kernel_rfl] at g2
  obtain ⟨A2, e2, z2, rfl, r2, q2, s2, n2⟩ := trod_row (en := encA_I) (k := 2) (Q := fun _ => True) Tryz.underlying23 prACel (fun _ => rfl) (by decide) (fun _ _ _ h => trod_prA h) (g2 : DataW.trod _ _ _ _ _ _ _ _ [c2] = some _)
  exact ⟨⟨x0, ⟨A1, e1, z1⟩, ⟨A2, e2, z2⟩⟩, rfl, ⟨r1, n1⟩, ⟨r2, n2⟩⟩
theorem itmUnd : Tryz.prog.underlying 84 = some (.struct (Tryz.prog.fieldsOf 84)) := by kernel_rfl
theorem itmTys : (Tryz.prog.fieldsOf 84).map (fun f => (f.offset, f.type)) = #[(0, 3), (1, 3), (2, 3), (3, 3)] := by kernel_rfl
theorem itmCel : Tryz.prog.cellsOf 84 = 4 := by kernel_rfl
theorem trod_itm {n : Nat} {cs : List Value} {x : DataW H × List MemPlace} (h : DataW.trod enc Tryz.prog w 0 (fun _ => true) true n 84 cs = some x) : ∃ a : IT, cs = encIT a ∧ True := by
  obtain ⟨hl, hf⟩ := trod_parts itmUnd h
  rw [itmCel] at hl
  have hty : ∀ j o u, (#[(0, 3), (1, 3), (2, 3), (3, 3)] : Array (Nat × TypeId))[j]? = some (o, u) → ∃ y m, DataW.trod enc Tryz.prog w 0 (fun _ => true) true m u ((cs.drop o).take (Tryz.prog.cellsOf u)) = some y := fun j o u hj => hf j o u (by rw [← itmTys, Array.getElem?_map] at hj; exact hj)
  clear hf h
  obtain ⟨c0, cs, rfl⟩ := List.exists_cons_of_length_eq_add_one hl
  have hl := Nat.succ.inj hl
  obtain ⟨c1, cs, rfl⟩ := List.exists_cons_of_length_eq_add_one hl
  have hl := Nat.succ.inj hl
  obtain ⟨c2, cs, rfl⟩ := List.exists_cons_of_length_eq_add_one hl
  have hl := Nat.succ.inj hl
  obtain ⟨c3, cs, rfl⟩ := List.exists_cons_of_length_eq_add_one hl
  have hl := Nat.succ.inj hl
  obtain rfl : cs = [] := List.eq_nil_of_length_eq_zero hl
  obtain ⟨_, _, g0⟩ := hty 0 0 _ rfl
  rw [cellsInt] at g0
  obtain ⟨x0, rfl⟩ := trod_cell_int Tryz.underlying3 (g0 : DataW.trod _ _ _ _ _ _ _ _ [c0] = some _)
  obtain ⟨_, _, g1⟩ := hty 1 1 _ rfl
  rw [cellsInt] at g1
  obtain ⟨x1, rfl⟩ := trod_cell_int Tryz.underlying3 (g1 : DataW.trod _ _ _ _ _ _ _ _ [c1] = some _)
  obtain ⟨_, _, g2⟩ := hty 2 2 _ rfl
  rw [cellsInt] at g2
  obtain ⟨x2, rfl⟩ := trod_cell_int Tryz.underlying3 (g2 : DataW.trod _ _ _ _ _ _ _ _ [c2] = some _)
  obtain ⟨_, _, g3⟩ := hty 3 3 _ rfl
  rw [cellsInt] at g3
  obtain ⟨x3, rfl⟩ := trod_cell_int Tryz.underlying3 (g3 : DataW.trod _ _ _ _ _ _ _ _ [c3] = some _)
  exact ⟨⟨x0, x1, x2, x3⟩, rfl, trivial⟩
theorem sesUnd : Tryz.prog.underlying 86 = some (.struct (Tryz.prog.fieldsOf 86)) := by kernel_rfl
theorem sesTys : (Tryz.prog.fieldsOf 86).map (fun f => (f.offset, f.type)) = #[(0, 3), (1, 3), (2, 9)] := by kernel_rfl
theorem sesCel : Tryz.prog.cellsOf 86 = 3 := by kernel_rfl
theorem trod_ses {n : Nat} {cs : List Value} {x : DataW H × List MemPlace} (h : DataW.trod enc Tryz.prog w 0 (fun _ => true) true n 86 cs = some x) : ∃ a : SS, cs = encSS a ∧ True := by
  obtain ⟨hl, hf⟩ := trod_parts sesUnd h
  rw [sesCel] at hl
  have hty : ∀ j o u, (#[(0, 3), (1, 3), (2, 9)] : Array (Nat × TypeId))[j]? = some (o, u) → ∃ y m, DataW.trod enc Tryz.prog w 0 (fun _ => true) true m u ((cs.drop o).take (Tryz.prog.cellsOf u)) = some y := fun j o u hj => hf j o u (by rw [← sesTys, Array.getElem?_map] at hj; exact hj)
  clear hf h
  obtain ⟨c0, cs, rfl⟩ := List.exists_cons_of_length_eq_add_one hl
  have hl := Nat.succ.inj hl
  obtain ⟨c1, cs, rfl⟩ := List.exists_cons_of_length_eq_add_one hl
  have hl := Nat.succ.inj hl
  obtain ⟨c2, cs, rfl⟩ := List.exists_cons_of_length_eq_add_one hl
  have hl := Nat.succ.inj hl
  obtain rfl : cs = [] := List.eq_nil_of_length_eq_zero hl
  obtain ⟨_, _, g0⟩ := hty 0 0 _ rfl
  rw [cellsInt] at g0
  obtain ⟨x0, rfl⟩ := trod_cell_int Tryz.underlying3 (g0 : DataW.trod _ _ _ _ _ _ _ _ [c0] = some _)
  obtain ⟨_, _, g1⟩ := hty 1 1 _ rfl
  rw [cellsInt] at g1
  obtain ⟨x1, rfl⟩ := trod_cell_int Tryz.underlying3 (g1 : DataW.trod _ _ _ _ _ _ _ _ [c1] = some _)
  obtain ⟨_, _, g2⟩ := hty 2 2 _ rfl
  rw [show Tryz.prog.cellsOf 9 = 1 by kernel_rfl] at g2
  obtain ⟨x2, rfl⟩ := trod_cell_str Tryz.underlying9 (g2 : DataW.trod _ _ _ _ _ _ _ _ [c2] = some _)
  exact ⟨⟨x0, x1, x2⟩, rfl, trivial⟩
theorem trod_iv {n : Nat} {cs : List Value} {x : DataW H × List MemPlace} (h : DataW.trod enc Tryz.prog w 0 (fun _ => true) true n 3 cs = some x) : ∃ a : Int, cs = encJ_T a ∧ True := by
  obtain ⟨a, e0, _, _⟩ := DataW.trod_int Tryz.underlying3 h
  exact ⟨a, e0, trivial⟩
theorem trod_il {n : Nat} {cs : List Value} {x : DataW H × List MemPlace} (h : DataW.trod enc Tryz.prog w 0 (fun _ => true) true n 26 cs = some x) : ∃ a : RW Int, cs = encW a ∧ RdJ w a := by
  obtain ⟨v, rfl⟩ := trod_slice1 Tryz.underlying26 h
  obtain ⟨A, c, z, rfl, r, _, s, n'⟩ := trod_row (en := encJ_T) (k := 1) (Q := fun _ => True) Tryz.underlying26 cellsInt (fun _ => rfl) (by decide) (fun _ _ _ h => trod_iv h) h
  exact ⟨⟨A, c, z⟩, rfl, rdI_of_J r, s, n'⟩
theorem trod_rl {n : Nat} {cs : List Value} {x : DataW H × List MemPlace} (h : DataW.trod enc Tryz.prog w 0 (fun _ => true) true n 79 cs = some x) : ∃ a : RW (Int × Int), cs = encW a ∧ RdW encR 2 w a := by
  obtain ⟨v, rfl⟩ := trod_slice1 Tryz.underlying79 h
  obtain ⟨A, c, z, rfl, r, _, s, n'⟩ := trod_row (en := encR) (k := 2) (Q := fun _ => True) Tryz.underlying79 prRCel (fun _ => rfl) (by decide) (fun _ _ _ h => trod_prR h) h
  exact ⟨⟨A, c, z⟩, rfl, r, s, n'⟩
def encSto (x : RW IT × RW SS) : List Value := [x.1.v, x.2.v]
theorem stoUnd : Tryz.prog.underlying 33 = some (.struct (Tryz.prog.fieldsOf 33)) := by kernel_rfl
theorem stoTys : (Tryz.prog.fieldsOf 33).map (fun f => (f.offset, f.type)) = #[(0, 30), (1, 31)] := by kernel_rfl
theorem stoCel : Tryz.prog.cellsOf 33 = 2 := by kernel_rfl
theorem trod_sto {n : Nat} {cs : List Value} {x : DataW H × List MemPlace} (h : DataW.trod enc Tryz.prog w 0 (fun _ => true) true n 33 cs = some x) : ∃ a : RW IT × RW SS, cs = encSto a ∧ (RdW encIT 4 w a.1 ∧ RdW encSS 3 w a.2) := by
  obtain ⟨hl, hf⟩ := trod_parts stoUnd h
  rw [stoCel] at hl
  have hty : ∀ j o u, (#[(0, 30), (1, 31)] : Array (Nat × TypeId))[j]? = some (o, u) → ∃ y m, DataW.trod enc Tryz.prog w 0 (fun _ => true) true m u ((cs.drop o).take (Tryz.prog.cellsOf u)) = some y := fun j o u hj => hf j o u (by rw [← stoTys, Array.getElem?_map] at hj; exact hj)
  clear hf h
  obtain ⟨c0, cs, rfl⟩ := List.exists_cons_of_length_eq_add_one hl
  have hl := Nat.succ.inj hl
  obtain ⟨c1, cs, rfl⟩ := List.exists_cons_of_length_eq_add_one hl
  have hl := Nat.succ.inj hl
  obtain rfl : cs = [] := List.eq_nil_of_length_eq_zero hl
  obtain ⟨_, _, g0⟩ := hty 0 0 _ rfl
  rw [show Tryz.prog.cellsOf 30 = 1 by kernel_rfl] at g0
  obtain ⟨A0, e0, z0, rfl, r0, q0, s0, n0⟩ := trod_row (en := encIT) (k := 4) (Q := fun _ => True) Tryz.underlying30 itmCel encIT_len (by decide) (fun _ _ _ h => trod_itm h) (g0 : DataW.trod _ _ _ _ _ _ _ _ [c0] = some _)
  obtain ⟨_, _, g1⟩ := hty 1 1 _ rfl
  rw [show Tryz.prog.cellsOf 31 = 1 by kernel_rfl] at g1
  obtain ⟨A1, e1, z1, rfl, r1, q1, s1, n1⟩ := trod_row (en := encSS) (k := 3) (Q := fun _ => True) Tryz.underlying31 sesCel encSS_len (by decide) (fun _ _ _ h => trod_ses h) (g1 : DataW.trod _ _ _ _ _ _ _ _ [c1] = some _)
  exact ⟨(⟨A0, e0, z0⟩, ⟨A1, e1, z1⟩), rfl, ⟨r0, s0, n0⟩, ⟨r1, s1, n1⟩⟩
theorem repUnd : Tryz.prog.underlying 35 = some (.struct (Tryz.prog.fieldsOf 35)) := by kernel_rfl
theorem repTys : (Tryz.prog.fieldsOf 35).map (fun f => (f.offset, f.type)) = #[(0, 3), (1, 3), (2, 3), (3, 3), (4, 3), (5, 3), (6, 3), (7, 22), (8, 23), (9, 24), (10, 25), (11, 26), (12, 27), (13, 29), (15, 3), (16, 33)] := by kernel_rfl
theorem repCel : Tryz.prog.cellsOf 35 = 18 := by kernel_rfl
theorem trod_rep {n : Nat} {cs : List Value} {x : DataW H × List MemPlace} (h : DataW.trod enc Tryz.prog w 0 (fun _ => true) true n 35 cs = some x) : ∃ a : RP, cs = encP a ∧ RdP w a := by
  obtain ⟨hl, hf⟩ := trod_parts repUnd h
  rw [repCel] at hl
  have hty : ∀ j o u, (#[(0, 3), (1, 3), (2, 3), (3, 3), (4, 3), (5, 3), (6, 3), (7, 22), (8, 23), (9, 24), (10, 25), (11, 26), (12, 27), (13, 29), (15, 3), (16, 33)] : Array (Nat × TypeId))[j]? = some (o, u) → ∃ y m, DataW.trod enc Tryz.prog w 0 (fun _ => true) true m u ((cs.drop o).take (Tryz.prog.cellsOf u)) = some y := fun j o u hj => hf j o u (by rw [← repTys, Array.getElem?_map] at hj; exact hj)
  clear hf h
  obtain ⟨c0, cs, rfl⟩ := List.exists_cons_of_length_eq_add_one hl
  have hl := Nat.succ.inj hl
  obtain ⟨c1, cs, rfl⟩ := List.exists_cons_of_length_eq_add_one hl
  have hl := Nat.succ.inj hl
  obtain ⟨c2, cs, rfl⟩ := List.exists_cons_of_length_eq_add_one hl
  have hl := Nat.succ.inj hl
  obtain ⟨c3, cs, rfl⟩ := List.exists_cons_of_length_eq_add_one hl
  have hl := Nat.succ.inj hl
  obtain ⟨c4, cs, rfl⟩ := List.exists_cons_of_length_eq_add_one hl
  have hl := Nat.succ.inj hl
  obtain ⟨c5, cs, rfl⟩ := List.exists_cons_of_length_eq_add_one hl
  have hl := Nat.succ.inj hl
  obtain ⟨c6, cs, rfl⟩ := List.exists_cons_of_length_eq_add_one hl
  have hl := Nat.succ.inj hl
  obtain ⟨c7, cs, rfl⟩ := List.exists_cons_of_length_eq_add_one hl
  have hl := Nat.succ.inj hl
  obtain ⟨c8, cs, rfl⟩ := List.exists_cons_of_length_eq_add_one hl
  have hl := Nat.succ.inj hl
  obtain ⟨c9, cs, rfl⟩ := List.exists_cons_of_length_eq_add_one hl
  have hl := Nat.succ.inj hl
  obtain ⟨c10, cs, rfl⟩ := List.exists_cons_of_length_eq_add_one hl
  have hl := Nat.succ.inj hl
  obtain ⟨c11, cs, rfl⟩ := List.exists_cons_of_length_eq_add_one hl
  have hl := Nat.succ.inj hl
  obtain ⟨c12, cs, rfl⟩ := List.exists_cons_of_length_eq_add_one hl
  have hl := Nat.succ.inj hl
  obtain ⟨c13, cs, rfl⟩ := List.exists_cons_of_length_eq_add_one hl
  have hl := Nat.succ.inj hl
  obtain ⟨c14, cs, rfl⟩ := List.exists_cons_of_length_eq_add_one hl
  have hl := Nat.succ.inj hl
  obtain ⟨c15, cs, rfl⟩ := List.exists_cons_of_length_eq_add_one hl
  have hl := Nat.succ.inj hl
  obtain ⟨c16, cs, rfl⟩ := List.exists_cons_of_length_eq_add_one hl
  have hl := Nat.succ.inj hl
  obtain ⟨c17, cs, rfl⟩ := List.exists_cons_of_length_eq_add_one hl
  have hl := Nat.succ.inj hl
  obtain rfl : cs = [] := List.eq_nil_of_length_eq_zero hl
  obtain ⟨_, _, g0⟩ := hty 0 0 _ rfl
  rw [cellsInt] at g0
  obtain ⟨x0, rfl⟩ := trod_cell_int Tryz.underlying3 (g0 : DataW.trod _ _ _ _ _ _ _ _ [c0] = some _)
  obtain ⟨_, _, g1⟩ := hty 1 1 _ rfl
  rw [cellsInt] at g1
  obtain ⟨x1, rfl⟩ := trod_cell_int Tryz.underlying3 (g1 : DataW.trod _ _ _ _ _ _ _ _ [c1] = some _)
  obtain ⟨_, _, g2⟩ := hty 2 2 _ rfl
  rw [cellsInt] at g2
  obtain ⟨x2, rfl⟩ := trod_cell_int Tryz.underlying3 (g2 : DataW.trod _ _ _ _ _ _ _ _ [c2] = some _)
  obtain ⟨_, _, g3⟩ := hty 3 3 _ rfl
  rw [cellsInt] at g3
  obtain ⟨x3, rfl⟩ := trod_cell_int Tryz.underlying3 (g3 : DataW.trod _ _ _ _ _ _ _ _ [c3] = some _)
  obtain ⟨_, _, g4⟩ := hty 4 4 _ rfl
  rw [cellsInt] at g4
  obtain ⟨x4, rfl⟩ := trod_cell_int Tryz.underlying3 (g4 : DataW.trod _ _ _ _ _ _ _ _ [c4] = some _)
  obtain ⟨_, _, g5⟩ := hty 5 5 _ rfl
  rw [cellsInt] at g5
  obtain ⟨x5, rfl⟩ := trod_cell_int Tryz.underlying3 (g5 : DataW.trod _ _ _ _ _ _ _ _ [c5] = some _)
  obtain ⟨_, _, g6⟩ := hty 6 6 _ rfl
  rw [cellsInt] at g6
  obtain ⟨x6, rfl⟩ := trod_cell_int Tryz.underlying3 (g6 : DataW.trod _ _ _ _ _ _ _ _ [c6] = some _)
  obtain ⟨_, _, g7⟩ := hty 7 7 _ rfl
  rw [show Tryz.prog.cellsOf 22 = 1 by kernel_rfl] at g7
  obtain ⟨A7, e7, z7, rfl, r7, q7, s7, n7⟩ := trod_row (en := encE) (k := 10) (Q := RdE0 w) Tryz.underlying22 (by rw [entC, entS]) encE_len (by decide) (fun _ _ _ h => trod_ent h) (g7 : DataW.trod _ _ _ _ _ _ _ _ [c7] = some _)
  obtain ⟨_, _, g8⟩ := hty 8 8 _ rfl
  rw [show Tryz.prog.cellsOf 23 = 1 by kernel_rfl] at g8
  obtain ⟨A8, e8, z8, rfl, r8, q8, s8, n8⟩ := trod_row (en := encA_I) (k := 2) (Q := fun _ => True) Tryz.underlying23 prACel (fun _ => rfl) (by decide) (fun _ _ _ h => trod_prA h) (g8 : DataW.trod _ _ _ _ _ _ _ _ [c8] = some _)
  obtain ⟨_, _, g9⟩ := hty 9 9 _ rfl
  rw [show Tryz.prog.cellsOf 24 = 1 by kernel_rfl] at g9
  obtain ⟨A9, e9, z9, rfl, r9, q9, s9, n9⟩ := trod_row (en := encKE) (k := 3) (Q := RdKE w) Tryz.underlying24 keCel encKE_len (by decide) (fun _ _ _ h => trod_ke h) (g9 : DataW.trod _ _ _ _ _ _ _ _ [c9] = some _)
  obtain ⟨_, _, g10⟩ := hty 10 10 _ rfl
  rw [show Tryz.prog.cellsOf 25 = 1 by kernel_rfl] at g10
  obtain ⟨A10, e10, z10, rfl, r10, q10, s10, n10⟩ := trod_row (en := encW) (k := 1) (Q := RdJ w) Tryz.underlying25 (by kernel_rfl) encW_len (by decide) (fun _ _ _ h => trod_il h) (g10 : DataW.trod _ _ _ _ _ _ _ _ [c10] = some _)
  obtain ⟨_, _, g11⟩ := hty 11 11 _ rfl
  rw [show Tryz.prog.cellsOf 26 = 1 by kernel_rfl] at g11
  obtain ⟨a11, q11, r11⟩ := trod_il (g11 : DataW.trod _ _ _ _ _ _ _ _ [c11] = some _)
  obtain rfl : c11 = a11.v := by simpa [encW] using q11
  obtain ⟨_, _, g12⟩ := hty 12 12 _ rfl
  rw [show Tryz.prog.cellsOf 27 = 1 by kernel_rfl] at g12
  obtain ⟨A12, e12, z12, rfl, r12, q12, s12, n12⟩ := trod_row (en := encW) (k := 1) (Q := RdW encR 2 w) Tryz.underlying27 (by kernel_rfl) encW_len (by decide) (fun _ _ _ h => trod_rl h) (g12 : DataW.trod _ _ _ _ _ _ _ _ [c12] = some _)
  obtain ⟨_, _, g13⟩ := hty 13 13 _ rfl
  rw [prACel] at g13
  obtain ⟨a13, q13, _⟩ := trod_prA (g13 : DataW.trod _ _ _ _ _ _ _ _ [c13, c14] = some _)
  obtain ⟨rfl, rfl⟩ : c13 = .int .i64 a13.1 ∧ c14 = .int .i64 a13.2 := by simpa [encA_I] using q13
  obtain ⟨_, _, g15⟩ := hty 14 15 _ rfl
  rw [cellsInt] at g15
  obtain ⟨x15, rfl⟩ := trod_cell_int Tryz.underlying3 (g15 : DataW.trod _ _ _ _ _ _ _ _ [c15] = some _)
  obtain ⟨_, _, g16⟩ := hty 15 16 _ rfl
  rw [stoCel] at g16
  obtain ⟨a16, q16, r16, r17⟩ := trod_sto (g16 : DataW.trod _ _ _ _ _ _ _ _ [c16, c17] = some _)
  obtain ⟨rfl, rfl⟩ : c16 = a16.1.v ∧ c17 = a16.2.v := by simpa [encSto] using q16
  exact ⟨⟨x0, x1, x2, x3, x4, x5, x6, ⟨A7, e7, z7⟩, ⟨A8, e8, z8⟩, ⟨A9, e9, z9⟩, ⟨A10, e10, z10⟩, a11, ⟨A12, e12, z12⟩, a13.1, a13.2, x15, a16.1, a16.2⟩, rfl,
    ⟨r7, q7⟩, ⟨r8, n8⟩, ⟨r9, s9, n9⟩, q9, ⟨r10, s10, n10⟩, q10, r11, ⟨r12, s12, n12⟩, q12, r16, r17⟩
theorem open_rep {r : Reach} {b0 : Nat} {v : Value} {d : DataW H} {p : List MemPlace} (hv : Value.okWide Tryz.prog w r b0 35 v) (h : DataW.Trod enc Tryz.prog w 0 (fun _ => true) true 35 v d p) : ∃ a : RP, v = .agg (encP a).toArray ∧ RdP w a := by
  obtain ⟨cs, rfl, _⟩ := okWide_struct repUnd hv
  obtain ⟨fuel, hf⟩ := h
  obtain ⟨a, e, ha⟩ := trod_rep hf
  have e' : cs.toList = encP a := e
  exact ⟨a, by rw [← e'], ha⟩
end
end Go.Proofs.YtnmojicfmcbgmaaGreatDoor
