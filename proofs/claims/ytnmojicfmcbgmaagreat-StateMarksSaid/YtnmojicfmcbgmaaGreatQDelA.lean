/- slices.DeleteFunc at api.Att: the elements that are kept, in their order. -/
import Derived.Test.YtnmojicfmcbgmaaGreatQSrtK
import Derived.Test.YtnmojicfmcbgmaaGreatQKnP
namespace Go.Proofs.YtnmojicfmcbgmaaGreat
open Go.RowKit Go.Sort Go.Lib
set_option maxRecDepth 100000
set_option maxHeartbeats 8000000 in
theorem attDel (p : Int × Int → Bool) (g : Nat) (lb : Array Value) (eg : ∀ args w, (callFunc g args).run Tryz.prog w = .ok (.enter g args) w) (blk off cap : Nat) (d : Array (Int × Int)) (w : World)
    (hp : ∀ W x, w.grownBy W (some blk) → Calls Tryz.prog g (#[.agg (encA_I x).toArray] ++ lb) W fun e w' => e = .returned (.bool (p x)) ∧ Below W.heap.size W w')
    (hH : HoldsK encA_I 2 w blk off d) (hlt : blk < w.heap.size) (hsz : d.size ≤ 1000000) (hcap : d.size ≤ cap) :
    Calls Tryz.prog 102 #[.slice (some ⟨blk, off, none⟩) d.size cap, .func (.func g) #[] lb] w fun e w' => e = .returned (.slice (some ⟨blk, off, none⟩) (d.toList.filter fun x => !p x).toArray.size cap) ∧ w.grownBy w' (some blk) ∧ RdK encA_I 2 w'.heap.size w' (some ⟨blk, off, none⟩) (d.toList.filter fun x => !p x).toArray := by
  have tl : ∀ j, j < d.size → d.toList[j]! = d[j]! := fun j hj => by rw [getElem!_pos d j hj, getElem!_pos d.toList j (by simpa using hj)]; simp
  have hIF := AnyQ.slices_IndexFunc (P := Tryz.prog) { Tryz.laysContA with } 2 Tryz.isAgg29 Tryz.sizeOf29 encA_I encA_len_I p g lb eg blk off d.size cap d.toList w
    (fun W x hb => (hp W x (grown_of_below hb _)).mono fun _ _ ⟨he, hb'⟩ => ⟨he, hb.trans (hb'.mono hb.size)⟩) (by simp) (by omega) hlt (fun j hj i v hv => by
      have hj' : j < d.size := by simpa using hj
      have hi : i < 2 := by
        rcases Nat.lt_or_ge i 2 with h' | h'
        · exact h'
        · rw [List.getElem?_eq_none (by rw [encA_len_I]; exact h')] at hv; cases hv
      rw [tl j hj'] at hv
      rw [(hH.cell hj' hi).1, List.getElem!_eq_getElem?_getD, hv]; rfl)
  rw [show d.toList.take d.size = d.toList from List.take_of_length_le (by simp)] at hIF
  obtain ⟨kp, HK⟩ : ∃ kp : Nat → Bool, Hid (kp = fun j => !p d[j]!) := ⟨_, rfl⟩
  have hfil : (d.toList.filter fun x => !p x) = keptUpTo kp d d.size := by rw [HK.out]; exact (keptUpTo_filter (fun x => !p x) d).symm
  rw [hfil]
  have HH := Lib.hid hH
  have HP := Lib.hid hp
  rcases idxByFrom_spec (fun _ y => p y) default d.toList 0 with ⟨e1, hall⟩ | ⟨k0, hk0, e1, ht, hall⟩
  · have e2 : Lib.idxBy (fun _ y => p y) d.toList default = -1 := e1
    rw [e2] at hIF
    have hkeep : ∀ j, j < d.size → kp j = true := fun j hj => by rw [HK.out]; show (!p d[j]!) = true; rw [← tl j hj, hall j (by simpa using hj)]; rfl
    have e3 : keptUpTo kp d d.size = d.toList := by rw [keptUpTo_all kp d _ hkeep, range_map_get]
    have HIF := Lib.hid hIF
    clear hH hp hIF hall tl hkeep hfil e1 e2
    have HE3 := Lib.hid e3
    clear e3
    go_enter Tryz.func102, Tryz.ntmps102
    go_wp2_with fail
    refine HIF.out.mono ?_
    rintro e w1 ⟨rfl, hb1⟩
    go_wp2
    go_ret
    rw [HE3.out]
    refine ⟨by simp, grown_of_below hb1 _, ?_⟩
    have hhk := holdsK_below HH.out hlt hb1
    have := RdK.of_holds hhk (B := w1.heap.size) (Nat.lt_of_lt_of_le hlt hb1.size)
    simpa using this
  · have hk0' : k0 < d.size := by simpa using hk0
    have e2 : Lib.idxBy (fun _ y => p y) d.toList default = (k0 : Int) := by unfold Lib.idxBy; rw [e1]; simp
    rw [e2] at hIF
    have hkeep : ∀ j, j < k0 → kp j = true := fun j hj => by rw [HK.out]; show (!p d[j]!) = true; rw [← tl j (by omega), hall j hj]; rfl
    have hdrop : kp k0 = false := by rw [HK.out]; show (!p d[k0]!) = false; rw [← tl k0 hk0']; rw [show p d.toList[k0]! = true from ht]; rfl
    have hne1 : ((k0 : Int) == -1) = false := beq_eq_false_iff_ne.2 (by omega)
    have HIF := Lib.hid hIF
    have HST := Lib.hid (KeptInv.start (d := d) hkeep hdrop)
    clear hH hp hIF hall ht e1 e2 tl hkeep hdrop hfil
    go_enter Tryz.func102, Tryz.ntmps102
    go_wp2_with fail
    refine HIF.out.mono ?_
    rintro e w1 ⟨rfl, hb1⟩
    have HB1 := Lib.hid hb1
    clear hb1 HIF
    go_wp2
    go_loopg [5, 6] d.size (fun gg s5 s6 wr => ∃ (i j : Nat) (dk : Array (Int × Int)), s5 = .int .i64 i ∧ s6 = .int .i64 j ∧ j ≤ d.size ∧ d.size - j ≤ gg ∧ Aside (SrtK encA_I 2 w blk off dk wr) ∧ Aside (KeptInv kp d j i dk))
    case atStart => exact ⟨k0, k0 + 1, d, rfl, by go_num, by omega, by omega, (SrtK.refl HH.out hlt).below HB1.out, HST.out⟩
    case round =>
      obtain ⟨i, j, dk, rfl, rfl, hjd, hgg, S2, I2⟩ := hrel
      have hij := I2.out.lt
      have hds := I2.out.size
      by_cases hlt2 : j < d.size
      · have hltz : (j : Int) < (d.size : Int) := by omega
        have cj0 := (S2.out.holds.cell (i := j) (c := 0) (by omega) (by decide)).1
        have cj1 := (S2.out.holds.cell (i := j) (c := 1) (by omega) (by decide)).1
        rw [I2.out.high j (by omega)] at cj0 cj1
        obtain ⟨u, hu⟩ : ∃ u, d[j]! = u := ⟨_, rfl⟩
        rw [hu] at cj0 cj1
        have C : Aside (d[j]! = u) := hu
        clear hu
        simp only [encA_I, List.getElem!_cons_zero, List.getElem!_cons_succ, Nat.add_zero] at cj0 cj1
        have HC := Lib.hid (fun W (hg : w.grownBy W (some blk)) => HP.out W u hg)
        have ilz : (i : Int) < (d.size : Int) := by omega
        have hw2 : ∀ w2, Below (wr.alloc (.cells #[.int .i64 u.1, .int .i64 u.2] 29)).heap.size (wr.alloc (.cells #[.int .i64 u.1, .int .i64 u.2] 29)) w2 → SrtK encA_I 2 w blk off dk w2 ∧ w2.cell? ⟨wr.heap.size, 0, none⟩ = some (.int .i64 u.1) ∧ w2.cell? ⟨wr.heap.size, 1, none⟩ = some (.int .i64 u.2) := fun w2 hb => by
          have hS := S2.out.below (belStep (bel1 wr _) hb)
          refine ⟨hS, ?_, ?_⟩
          all_goals exact (hb.cell (p := ⟨wr.heap.size, _, none⟩) (by simp)).trans (cell_new wr _ _ _)
        have HW2 := Lib.hid hw2
        clear hw2
        cases hq : p u with
        | false =>
          rw [hq] at HC
          go_wp2_with fail
          refine (HC.out _ (grown_trans_K S2.out.grown (grown_of_below (bel1 wr _) _))).mono ?_
          rintro e w2 ⟨rfl, hb2⟩
          obtain ⟨hS, uu0, uu1⟩ := HW2.out w2 hb2
          have HS := Lib.hid hS
          have ci0 := hS.holds.cell (i := i) (c := 0) (by omega) (by decide)
          have cc0 := ci0.1
          have cf0 := ci0.2
          have ci1 := hS.holds.cell (i := i) (c := 1) (by omega) (by decide)
          have cc1 := ci1.1
          have cf1 := ci1.2
          simp only [Nat.add_zero] at cc0 cf0
          clear hS hb2 HC HW2 ci0 ci1
          generalize (encA_I dk[i]!)[0]! = old0 at cc0
          generalize (encA_I dk[i]!)[1]! = old1 at cc1
          go_wp2
          go_roundg (d.size - (j + 1))
          case measure => omega
          case rel =>
            refine ⟨i + 1, j + 1, dk.setIfInBounds i u, by go_num, by go_num, by omega, Nat.le_refl _, HS.out.put encA_len_I (by omega) u, (show Aside _ from ?_)⟩
            have := I2.out.keep hlt2 (by rw [HK.out]; show (!p d[j]!) = true; rw [C.out, hq]; rfl)
            rwa [C.out] at this
        | true =>
          rw [hq] at HC
          go_wp2_with fail
          refine (HC.out _ (grown_trans_K S2.out.grown (grown_of_below (bel1 wr _) _))).mono ?_
          rintro e w2 ⟨rfl, hb2⟩
          have HS := Lib.hid (HW2.out w2 hb2).1
          clear hb2 HC HW2
          go_wp2
          go_roundg (d.size - (j + 1))
          case measure => omega
          case rel => exact ⟨i, j + 1, dk, rfl, by go_num, by omega, Nat.le_refl _, HS.out, I2.out.skip (by rw [HK.out]; show (!p d[j]!) = false; rw [C.out, hq]; rfl)⟩
      · obtain rfl : j = d.size := by omega
        have hltz : ¬ (d.size : Int) < (d.size : Int) := by omega
        have ilz : (i : Int) < (d.size : Int) := by omega
        have icz : (i : Int) ≤ (cap : Int) := by omega
        have hnc : (cap = i) = False := by simp; omega
        obtain ⟨zs, hzs, hcl⟩ : ∃ zs, zs = zs ∧ ∀ ty, (Builtin.clear_ #[23] ty #[.slice (some ⟨blk, off + i * 2, none⟩) (d.size - i) (cap - i)]).run Tryz.prog wr = .ok (.tuple #[]) (wr.setCells blk (off + i * 2) zs) := by
          refine ⟨_, rfl, fun ty => run_clear_sliceK wr _ _ ty _ Tryz.underlying23 Tryz.zeroValue29 (zeroCells_one _ _ (by simp [Value.cells, Value.oneCell'])) blk (off + i * 2) _ (by omega) (fun t ht => ?_) (fun t ht => ?_)⟩
          all_goals
            rw [zeroCells_len] at ht
            have ht' : t < (d.size - i) * 2 := ht
            have hb := S2.out.holds (i * 2 + t) (by rw [size_flatK]; have := Nat.mul_le_mul_right 2 (show i ≤ d.size by omega); rw [Nat.sub_mul] at ht'; omega)
            rw [← Nat.add_assoc] at hb
          · rw [hb.1]; rfl
          · exact hb.2
        have HS := Lib.hid S2.out
        have HI := Lib.hid I2.out
        clear hzs S2 I2
        go_wp2
        go_ret
        have hlen := HI.out.len
        refine ⟨?_, ?_, ?_⟩
        · simp only [hlen]; rfl
        · exact grown_trans_K HS.out.grown (grown_setCells _ _ _ _)
        · have := kept_rd HS.out HI.out zs
          simpa using this
end Go.Proofs.YtnmojicfmcbgmaaGreat
