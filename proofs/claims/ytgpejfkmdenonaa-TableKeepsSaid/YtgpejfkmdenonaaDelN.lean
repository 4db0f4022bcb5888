/- slices.DeleteFunc at api.Entry: the elements that are kept, in their order. -/
import Derived.Test.YtgpejfkmdenonaaSrtK
import Derived.Test.YtgpejfkmdenonaaTbC
import Derived.Test.YtgpejfkmdenonaaShelf
namespace Go.Proofs.Ytgpejfkmdenonaa
open Go.RowKit Go.Sort Go.Lib
set_option maxRecDepth 100000
set_option maxHeartbeats 8000000 in
theorem entDel (p : EN → Bool) (g : Nat) (lb : Array Value) (eg : ∀ args w, (callFunc g args).run Try.prog w = .ok (.enter g args) w) (blk off cap : Nat) (d : Array (EN)) (w : World)
    (hp : ∀ W x, w.grownBy W (some blk) → Calls Try.prog g (#[.agg (encE x).toArray] ++ lb) W fun e w' => e = .returned (.bool (p x)) ∧ Below W.heap.size W w')
    (hH : HoldsK encE 10 w blk off d) (hlt : blk < w.heap.size) (hsz : d.size ≤ 1000000) (hcap : d.size ≤ cap) :
    Calls Try.prog 36 #[.slice (some ⟨blk, off, none⟩) d.size cap, .func (.func g) #[] lb] w fun e w' => e = .returned (.slice (some ⟨blk, off, none⟩) (d.toList.filter fun x => !p x).toArray.size cap) ∧ w.grownBy w' (some blk) ∧ RdK encE 10 w'.heap.size w' (some ⟨blk, off, none⟩) (d.toList.filter fun x => !p x).toArray := by
  have tl : ∀ j, j < d.size → d.toList[j]! = d[j]! := fun j hj => by rw [getElem!_pos d j hj, getElem!_pos d.toList j (by simpa using hj)]; simp
  have hIF := AnyQ.slices_IndexFunc (P := Try.prog) { Try.laysIdxN with } 10 Try.isAgg25 Try.sizeOf25 encE encE_len p g lb eg blk off d.size cap d.toList w
    (fun W x hb => (hp W x (grown_of_below hb _)).mono fun _ _ ⟨he, hb'⟩ => ⟨he, hb.trans (hb'.mono hb.size)⟩) (by simp) (by omega) hlt (fun j hj i v hv => by
      have hj' : j < d.size := by simpa using hj
      have hi : i < 10 := by
        rcases Nat.lt_or_ge i 10 with h' | h'
        · exact h'
        · rw [List.getElem?_eq_none (by rw [encE_len]; exact h')] at hv; cases hv
      rw [tl j hj'] at hv
      rw [(hH.cell hj' hi).1, List.getElem!_eq_getElem?_getD, hv]; rfl)
  rw [show d.toList.take d.size = d.toList from List.take_of_length_le (by simp)] at hIF
  obtain ⟨kp, HK⟩ : ∃ kp : Nat → Bool, Hid (kp = fun j => !p d[j]!) := ⟨_, rfl⟩
  have hfil : (d.toList.filter fun x => !p x) = keptUpTo kp d d.size := by rw [HK.out]; exact (keptUpTo_filter (fun x => !p x) d).symm
  rw [hfil]
  have HH := Lib.hid hH
  have HP := Lib.hid hp
  rcases idxByFrom_spec (fun _ y => p y) default d.toList 0 with ⟨e1, hall⟩ | ⟨k0, hk0, e1, ht, hall⟩
  · have e2 : Lib.idxBy (fun _ y => p y) d.toList default = -1 := e1
    rw [e2] at hIF
    have hkeep : ∀ j, j < d.size → kp j = true := fun j hj => by rw [HK.out]; show (!p d[j]!) = true; rw [← tl j hj, hall j (by simpa using hj)]; rfl
    have e3 : keptUpTo kp d d.size = d.toList := by rw [keptUpTo_all kp d _ hkeep, range_map_get]
    have HIF := Lib.hid hIF
    clear hH hp hIF hall tl hkeep hfil e1 e2
    have HE3 := Lib.hid e3
    clear e3
    go_enter Try.func36, Try.ntmps36
    go_wp2_with fail
    refine HIF.out.mono ?_
    rintro e w1 ⟨rfl, hb1⟩
    go_wp2
    go_ret
    rw [HE3.out]
    refine ⟨by simp, grown_of_below hb1 _, ?_⟩
    have hhk := holdsK_below HH.out hlt hb1
    have := RdK.of_holds hhk (B := w1.heap.size) (Nat.lt_of_lt_of_le hlt hb1.size)
    simpa using this
  · have hk0' : k0 < d.size := by simpa using hk0
    have e2 : Lib.idxBy (fun _ y => p y) d.toList default = (k0 : Int) := by unfold Lib.idxBy; rw [e1]; simp
    rw [e2] at hIF
    have hkeep : ∀ j, j < k0 → kp j = true := fun j hj => by rw [HK.out]; show (!p d[j]!) = true; rw [← tl j (by omega), hall j hj]; rfl
    have hdrop : kp k0 = false := by rw [HK.out]; show (!p d[k0]!) = false; rw [← tl k0 hk0']; rw [show p d.toList[k0]! = true from ht]; rfl
    have hne1 : ((k0 : Int) == -1) = false := beq_eq_false_iff_ne.2 (by omega)
    have HIF := Lib.hid hIF
    have HST := Lib.hid (KeptInv.start (d := d) hkeep hdrop)
    clear hH hp hIF hall ht e1 e2 tl hkeep hdrop hfil
    go_enter Try.func36, Try.ntmps36
    go_wp2_with fail
    refine HIF.out.mono ?_
    rintro e w1 ⟨rfl, hb1⟩
    have HB1 := Lib.hid hb1
    clear hb1 HIF
    go_wp2
    go_loopg [5, 6] d.size (fun gg s5 s6 wr => ∃ (i j : Nat) (dk : Array (EN)), s5 = .int .i64 i ∧ s6 = .int .i64 j ∧ j ≤ d.size ∧ d.size - j ≤ gg ∧ Aside (SrtK encE 10 w blk off dk wr) ∧ Aside (KeptInv kp d j i dk))
    case atStart => exact ⟨k0, k0 + 1, d, rfl, by go_num, by omega, by omega, (SrtK.refl HH.out hlt).below HB1.out, HST.out⟩
    case round =>
      obtain ⟨i, j, dk, rfl, rfl, hjd, hgg, S2, I2⟩ := hrel
      have hij := I2.out.lt
      have hds := I2.out.size
      by_cases hlt2 : j < d.size
      · have hltz : (j : Int) < (d.size : Int) := by omega
        have cj0 := (S2.out.holds.cell (i := j) (c := 0) (by omega) (by decide)).1
        have cj1 := (S2.out.holds.cell (i := j) (c := 1) (by omega) (by decide)).1
        have cj2 := (S2.out.holds.cell (i := j) (c := 2) (by omega) (by decide)).1
        have cj3 := (S2.out.holds.cell (i := j) (c := 3) (by omega) (by decide)).1
        have cj4 := (S2.out.holds.cell (i := j) (c := 4) (by omega) (by decide)).1
        have cj5 := (S2.out.holds.cell (i := j) (c := 5) (by omega) (by decide)).1
        have cj6 := (S2.out.holds.cell (i := j) (c := 6) (by omega) (by decide)).1
        have cj7 := (S2.out.holds.cell (i := j) (c := 7) (by omega) (by decide)).1
        have cj8 := (S2.out.holds.cell (i := j) (c := 8) (by omega) (by decide)).1
        have cj9 := (S2.out.holds.cell (i := j) (c := 9) (by omega) (by decide)).1
        rw [I2.out.high j (by omega)] at cj0 cj1 cj2 cj3 cj4 cj5 cj6 cj7 cj8 cj9
        obtain ⟨u, hu⟩ : ∃ u, d[j]! = u := ⟨_, rfl⟩
        rw [hu] at cj0 cj1 cj2 cj3 cj4 cj5 cj6 cj7 cj8 cj9
        have C : Aside (d[j]! = u) := hu
        clear hu
        simp only [encE, List.getElem!_cons_zero, List.getElem!_cons_succ, Nat.add_zero] at cj0 cj1 cj2 cj3 cj4 cj5 cj6 cj7 cj8 cj9
        have HC := Lib.hid (fun W (hg : w.grownBy W (some blk)) => HP.out W u hg)
        have ilz : (i : Int) < (d.size : Int) := by omega
        have hw2 : ∀ w2, Below (wr.alloc (.cells #[.int .i64 u.id, .int .i64 u.ph, .int .i64 u.qu, .int .i64 u.t, .int .i64 u.bal, .int .i64 u.abal, .int .i64 u.seen, .int .i64 u.age, .string u.pay, .slice u.A u.z.size u.c] 25)).heap.size (wr.alloc (.cells #[.int .i64 u.id, .int .i64 u.ph, .int .i64 u.qu, .int .i64 u.t, .int .i64 u.bal, .int .i64 u.abal, .int .i64 u.seen, .int .i64 u.age, .string u.pay, .slice u.A u.z.size u.c] 25)) w2 → SrtK encE 10 w blk off dk w2 ∧ w2.cell? ⟨wr.heap.size, 0, none⟩ = some (.int .i64 u.id) ∧ w2.cell? ⟨wr.heap.size, 1, none⟩ = some (.int .i64 u.ph) ∧ w2.cell? ⟨wr.heap.size, 2, none⟩ = some (.int .i64 u.qu) ∧ w2.cell? ⟨wr.heap.size, 3, none⟩ = some (.int .i64 u.t) ∧ w2.cell? ⟨wr.heap.size, 4, none⟩ = some (.int .i64 u.bal) ∧ w2.cell? ⟨wr.heap.size, 5, none⟩ = some (.int .i64 u.abal) ∧ w2.cell? ⟨wr.heap.size, 6, none⟩ = some (.int .i64 u.seen) ∧ w2.cell? ⟨wr.heap.size, 7, none⟩ = some (.int .i64 u.age) ∧ w2.cell? ⟨wr.heap.size, 8, none⟩ = some (.string u.pay) ∧ w2.cell? ⟨wr.heap.size, 9, none⟩ = some (.slice u.A u.z.size u.c) := fun w2 hb => by
          have hS := S2.out.below (belStep (bel1 wr _) hb)
          refine ⟨hS, ?_, ?_, ?_, ?_, ?_, ?_, ?_, ?_, ?_, ?_⟩
          all_goals exact (hb.cell (p := ⟨wr.heap.size, _, none⟩) (by simp)).trans (cell_new wr _ _ _)
        have HW2 := Lib.hid hw2
        clear hw2
        cases hq : p u with
        | false =>
          rw [hq] at HC
          go_wp2_with fail
          refine (HC.out _ (grown_trans_K S2.out.grown (grown_of_below (bel1 wr _) _))).mono ?_
          rintro e w2 ⟨rfl, hb2⟩
          obtain ⟨hS, uu0, uu1, uu2, uu3, uu4, uu5, uu6, uu7, uu8, uu9⟩ := HW2.out w2 hb2
          have HS := Lib.hid hS
          have ci0 := hS.holds.cell (i := i) (c := 0) (by omega) (by decide)
          have cc0 := ci0.1
          have cf0 := ci0.2
          have ci1 := hS.holds.cell (i := i) (c := 1) (by omega) (by decide)
          have cc1 := ci1.1
          have cf1 := ci1.2
          have ci2 := hS.holds.cell (i := i) (c := 2) (by omega) (by decide)
          have cc2 := ci2.1
          have cf2 := ci2.2
          have ci3 := hS.holds.cell (i := i) (c := 3) (by omega) (by decide)
          have cc3 := ci3.1
          have cf3 := ci3.2
          have ci4 := hS.holds.cell (i := i) (c := 4) (by omega) (by decide)
          have cc4 := ci4.1
          have cf4 := ci4.2
          have ci5 := hS.holds.cell (i := i) (c := 5) (by omega) (by decide)
          have cc5 := ci5.1
          have cf5 := ci5.2
          have ci6 := hS.holds.cell (i := i) (c := 6) (by omega) (by decide)
          have cc6 := ci6.1
          have cf6 := ci6.2
          have ci7 := hS.holds.cell (i := i) (c := 7) (by omega) (by decide)
          have cc7 := ci7.1
          have cf7 := ci7.2
          have ci8 := hS.holds.cell (i := i) (c := 8) (by omega) (by decide)
          have cc8 := ci8.1
          have cf8 := ci8.2
          have ci9 := hS.holds.cell (i := i) (c := 9) (by omega) (by decide)
          have cc9 := ci9.1
          have cf9 := ci9.2
          simp only [Nat.add_zero] at cc0 cf0
          clear hS hb2 HC HW2 ci0 ci1 ci2 ci3 ci4 ci5 ci6 ci7 ci8 ci9
          generalize (encE dk[i]!)[0]! = old0 at cc0
          generalize (encE dk[i]!)[1]! = old1 at cc1
          generalize (encE dk[i]!)[2]! = old2 at cc2
          generalize (encE dk[i]!)[3]! = old3 at cc3
          generalize (encE dk[i]!)[4]! = old4 at cc4
          generalize (encE dk[i]!)[5]! = old5 at cc5
          generalize (encE dk[i]!)[6]! = old6 at cc6
          generalize (encE dk[i]!)[7]! = old7 at cc7
          generalize (encE dk[i]!)[8]! = old8 at cc8
          generalize (encE dk[i]!)[9]! = old9 at cc9
          go_wp2
          go_roundg (d.size - (j + 1))
          case measure => omega
          case rel =>
            refine ⟨i + 1, j + 1, dk.setIfInBounds i u, by go_num, by go_num, by omega, Nat.le_refl _, HS.out.put encE_len (by omega) u, (show Aside _ from ?_)⟩
            have := I2.out.keep hlt2 (by rw [HK.out]; show (!p d[j]!) = true; rw [C.out, hq]; rfl)
            rwa [C.out] at this
        | true =>
          rw [hq] at HC
          go_wp2_with fail
          refine (HC.out _ (grown_trans_K S2.out.grown (grown_of_below (bel1 wr _) _))).mono ?_
          rintro e w2 ⟨rfl, hb2⟩
          have HS := Lib.hid (HW2.out w2 hb2).1
          clear hb2 HC HW2
          go_wp2
          go_roundg (d.size - (j + 1))
          case measure => omega
          case rel => exact ⟨i, j + 1, dk, rfl, by go_num, by omega, Nat.le_refl _, HS.out, I2.out.skip (by rw [HK.out]; show (!p d[j]!) = false; rw [C.out, hq]; rfl)⟩
      · obtain rfl : j = d.size := by omega
        have hltz : ¬ (d.size : Int) < (d.size : Int) := by omega
        have ilz : (i : Int) < (d.size : Int) := by omega
        have icz : (i : Int) ≤ (cap : Int) := by omega
        have hnc : (cap = i) = False := by simp; omega
        obtain ⟨zs, hzs, hcl⟩ : ∃ zs, zs = zs ∧ ∀ ty, (Builtin.clear_ #[22] ty #[.slice (some ⟨blk, off + i * 10, none⟩) (d.size - i) (cap - i)]).run Try.prog wr = .ok (.tuple #[]) (wr.setCells blk (off + i * 10) zs) := by
          refine ⟨_, rfl, fun ty => run_clear_sliceK wr _ _ ty _ Try.underlying22 Try.zeroValue25 (zeroCells_one _ _ (by simp [Value.cells, Value.oneCell'])) blk (off + i * 10) _ (by omega) (fun t ht => ?_) (fun t ht => ?_)⟩
          all_goals
            rw [zeroCells_len] at ht
            have ht' : t < (d.size - i) * 10 := ht
            have hb := S2.out.holds (i * 10 + t) (by rw [size_flatK]; have := Nat.mul_le_mul_right 10 (show i ≤ d.size by omega); rw [Nat.sub_mul] at ht'; omega)
            rw [← Nat.add_assoc] at hb
          · rw [hb.1]; rfl
          · exact hb.2
        have HS := Lib.hid S2.out
        have HI := Lib.hid I2.out
        clear hzs S2 I2
        go_wp2
        go_ret
        have hlen := HI.out.len
        refine ⟨?_, ?_, ?_⟩
        · simp only [hlen]; rfl
        · exact grown_trans_K HS.out.grown (grown_setCells _ _ _ _)
        · have := kept_rd HS.out HI.out zs
          simpa using this
end Go.Proofs.Ytgpejfkmdenonaa
