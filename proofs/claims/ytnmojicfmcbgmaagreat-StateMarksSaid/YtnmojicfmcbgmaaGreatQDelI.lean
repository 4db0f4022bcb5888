/- slices.IndexFunc, slices.DeleteFunc at int, by a predicate that may make memory. -/
import Derived.Test.YtnmojicfmcbgmaaGreatQSrtK
import Derived.Test.YtnmojicfmcbgmaaGreatQKnP
import Derived.Test.YtnmojicfmcbgmaaGreatQTbH
namespace Go.Proofs.YtnmojicfmcbgmaaGreat
open Go.RowKit Go.Sort Go.Lib
set_option maxRecDepth 100000
/-- The first place where p says yes. -/
def IdxF (p : Int → Bool) (d : Array Int) (e : Ending) : Prop := ∃ r : Int, e = .returned (.int .i64 r) ∧ ((r = -1 ∧ ∀ j, j < d.size → p d[j]! = false) ∨ ∃ k0 : Nat, r = (k0 : Int) ∧ k0 < d.size ∧ p d[k0]! = true ∧ ∀ j, j < k0 → p d[j]! = false)
theorem cellJ_of {w : World} {blk off : Nat} {d : Array Int} (h : HoldsK encJ_T 1 w blk off d) {i : Nat} (hi : i < d.size) : w.cell? ⟨blk, off + i, none⟩ = some (.int .i64 d[i]!) ∧ w.frozen? ⟨blk, off + i, none⟩ = false := by
  have := h.cell (i := i) (c := 0) hi (by decide)
  simp only [Nat.mul_one, Nat.add_zero, encJ_T, List.getElem!_cons_zero] at this
  exact this
set_option maxHeartbeats 4000000 in
theorem intIdx (p : Int → Bool) (g : Nat) (lb : Array Value) (eg : ∀ args w, (callFunc g args).run Tryz.prog w = .ok (.enter g args) w) (blk off cap : Nat) (d : Array Int) (w : World)
    (hp : ∀ W x, w.grownBy W (some blk) → Calls Tryz.prog g (#[.int .i64 x] ++ lb) W fun e w' => e = .returned (.bool (p x)) ∧ Below W.heap.size W w')
    (hH : HoldsK encJ_T 1 w blk off d) (hlt : blk < w.heap.size) (hsz : d.size ≤ 1000000) :
    Calls Tryz.prog 153 #[.slice (some ⟨blk, off, none⟩) d.size cap, .func (.func g) #[] lb] w fun e w' => IdxF p d e ∧ Below w.heap.size w w' := by
  have HH := Lib.hid hH
  have HP := Lib.hid hp
  clear hH hp
  go_enter Tryz.func153, Tryz.ntmps153
  go_wp2
  go_loopw [8] (fun i wr => ∃ k : Nat, i = .int .i64 k ∧ k ≤ d.size ∧ Hid (∀ j, j < k → p d[j]! = false) ∧ Hid (Below w.heap.size w wr)) (fun i _ => d.size - (intOf i).toNat)
  case atStart => exact ⟨0, rfl, Nat.zero_le _, Lib.hid (fun j hj => absurd hj (by omega)), Lib.hid (Below.refl _ _)⟩
  case round =>
    obtain ⟨k, rfl, hk, hall, HB⟩ := hrel
    by_cases hlt2 : k < d.size
    · have kz : (k : Int) < (d.size : Int) := by omega
      have e0 := (HB.out.cell (p := ⟨blk, off + k, none⟩) hlt).trans (cellJ_of HH.out hlt2).1
      have HC := Lib.hid (HP.out wr d[k]! (grown_of_below HB.out _))
      obtain ⟨x, hx⟩ : ∃ x, d[k]! = x := ⟨_, rfl⟩
      obtain ⟨q, hq⟩ : ∃ q, p d[k]! = q := ⟨_, rfl⟩
      rw [hq] at HC
      have HQ := Lib.hid hq
      rw [hx] at HC e0
      clear hx hq
      cases q
      · go_wp2_with fail
        refine HC.out.mono ?_
        rintro e w' ⟨rfl, hb'⟩
        have HB2 := Lib.hid (belStep HB.out hb')
        clear hb'
        go_wp2
        go_roundw
        case rel =>
          refine ⟨k + 1, by go_num, by omega, Lib.hid (fun j hj => ?_), HB2⟩
          rcases Nat.lt_or_ge j k with h | h
          · exact hall.out j h
          · obtain rfl : j = k := by omega
            exact HQ.out
        case measure => simp [intOf]; omega
      · go_wp2_with fail
        refine HC.out.mono ?_
        rintro e w' ⟨rfl, hb'⟩
        have HB2 := Lib.hid (belStep HB.out hb')
        clear hb'
        go_wp2
        go_ret
        exact ⟨⟨k, rfl, Or.inr ⟨k, rfl, hlt2, HQ.out, hall.out⟩⟩, HB2.out⟩
    · have hlt' : decide ((k : Int) < (d.size : Int)) = false := by simp; omega
      go_wp2
      go_ret
      exact ⟨⟨-1, rfl, Or.inl ⟨rfl, fun j hj => hall.out j (by omega)⟩⟩, HB.out⟩
set_option maxHeartbeats 8000000 in
theorem intDel (p : Int → Bool) (g : Nat) (lb : Array Value) (eg : ∀ args w, (callFunc g args).run Tryz.prog w = .ok (.enter g args) w) (blk off cap : Nat) (d : Array Int) (w : World)
    (hp : ∀ W x, w.grownBy W (some blk) → Calls Tryz.prog g (#[.int .i64 x] ++ lb) W fun e w' => e = .returned (.bool (p x)) ∧ Below W.heap.size W w')
    (hH : HoldsK encJ_T 1 w blk off d) (hlt : blk < w.heap.size) (hsz : d.size ≤ 1000000) (hcap : d.size ≤ cap) :
    Calls Tryz.prog 112 #[.slice (some ⟨blk, off, none⟩) d.size cap, .func (.func g) #[] lb] w fun e w' => e = .returned (.slice (some ⟨blk, off, none⟩) (d.toList.filter fun x => !p x).toArray.size cap) ∧ w.grownBy w' (some blk) ∧ RdK encJ_T 1 w'.heap.size w' (some ⟨blk, off, none⟩) (d.toList.filter fun x => !p x).toArray := by
  have hIF := intIdx p g lb eg blk off cap d w hp hH hlt hsz
  obtain ⟨kp, HK⟩ : ∃ kp : Nat → Bool, Hid (kp = fun j => !p d[j]!) := ⟨_, rfl⟩
  have hfil : (d.toList.filter fun x => !p x) = keptUpTo kp d d.size := by rw [HK.out]; exact (keptUpTo_filter (fun x => !p x) d).symm
  rw [hfil]
  have HH := Lib.hid hH
  have HP := Lib.hid hp
  have HIF := Lib.hid hIF
  clear hH hp hIF hfil
  go_enter Tryz.func112, Tryz.ntmps112
  go_wp2_with fail
  refine HIF.out.mono ?_
  rintro e w1 ⟨⟨r, rfl, ⟨rfl, hall⟩ | ⟨k0, rfl, hk0, ht, hall⟩⟩, hb1⟩
  · have hkeep : ∀ j, j < d.size → kp j = true := fun j hj => by rw [HK.out]; show (!p d[j]!) = true; rw [hall j hj]; rfl
    have HE3 : Hid (keptUpTo kp d d.size = d.toList) := by show _ = _; rw [keptUpTo_all kp d _ hkeep, range_map_get]
    clear hall hkeep
    go_wp2
    go_ret
    rw [HE3.out]
    refine ⟨by simp, grown_of_below hb1 _, ?_⟩
    have hhk := holdsK_below HH.out hlt hb1
    have := RdK.of_holds hhk (B := w1.heap.size) (Nat.lt_of_lt_of_le hlt hb1.size)
    simpa using this
  · have hkeep : ∀ j, j < k0 → kp j = true := fun j hj => by rw [HK.out]; show (!p d[j]!) = true; rw [hall j hj]; rfl
    have hdrop : kp k0 = false := by rw [HK.out]; show (!p d[k0]!) = false; rw [ht]; rfl
    have hne1 : ((k0 : Int) == -1) = false := beq_eq_false_iff_ne.2 (by omega)
    have HST := Lib.hid (KeptInv.start (d := d) hkeep hdrop)
    clear hall ht hkeep hdrop
    have HB1 := Lib.hid hb1
    clear hb1
    go_wp2
    go_loopg [5, 6] d.size (fun gg s5 s6 wr => ∃ (i j : Nat) (dk : Array Int), s5 = .int .i64 i ∧ s6 = .int .i64 j ∧ j ≤ d.size ∧ d.size - j ≤ gg ∧ Aside (SrtK encJ_T 1 w blk off dk wr) ∧ Aside (KeptInv kp d j i dk))
    case atStart => exact ⟨k0, k0 + 1, d, rfl, by go_num, by omega, by omega, (SrtK.refl HH.out hlt).below HB1.out, HST.out⟩
    case round =>
      obtain ⟨i, j, dk, rfl, rfl, hjd, hgg, S2, I2⟩ := hrel
      have hij := I2.out.lt
      have hds := I2.out.size
      by_cases hlt2 : j < d.size
      · have hltz : (j : Int) < (d.size : Int) := by omega
        have cj0 := (cellJ_of S2.out.holds (i := j) (by omega)).1
        rw [I2.out.high j (by omega)] at cj0
        obtain ⟨u, hu⟩ : ∃ u, d[j]! = u := ⟨_, rfl⟩
        rw [hu] at cj0
        have C : Aside (d[j]! = u) := hu
        clear hu
        have HC := Lib.hid (HP.out wr u S2.out.grown)
        have ilz : (i : Int) < (d.size : Int) := by omega
        cases hq : p u with
        | false =>
          rw [hq] at HC
          go_wp2_with fail
          refine HC.out.mono ?_
          rintro e w2 ⟨rfl, hb2⟩
          have hS := S2.out.below hb2
          have HS := Lib.hid hS
          have ci0 := cellJ_of hS.holds (i := i) (by omega)
          have cc0 := ci0.1
          have cf0 := ci0.2
          clear hS hb2 HC ci0
          generalize dk[i]! = old0 at cc0
          go_wp2
          go_roundg (d.size - (j + 1))
          case measure => omega
          case rel =>
            refine ⟨i + 1, j + 1, dk.setIfInBounds i u, by go_num, by go_num, by omega, Nat.le_refl _, (show Aside _ from ?_), (show Aside _ from ?_)⟩
            · have := HS.out.put encJ_T_len (i := i) (by omega) u
              show SrtK encJ_T 1 w blk off (dk.setIfInBounds i u) _
              simpa [encJ_T, World.setCells] using this
            · have := I2.out.keep hlt2 (by rw [HK.out]; show (!p d[j]!) = true; rw [C.out, hq]; rfl)
              rwa [C.out] at this
        | true =>
          rw [hq] at HC
          go_wp2_with fail
          refine HC.out.mono ?_
          rintro e w2 ⟨rfl, hb2⟩
          have HS := Lib.hid (S2.out.below hb2)
          clear hb2 HC
          go_wp2
          go_roundg (d.size - (j + 1))
          case measure => omega
          case rel => exact ⟨i, j + 1, dk, rfl, by go_num, by omega, Nat.le_refl _, HS.out, I2.out.skip (by rw [HK.out]; show (!p d[j]!) = false; rw [C.out, hq]; rfl)⟩
      · obtain rfl : j = d.size := by omega
        have hltz : ¬ (d.size : Int) < (d.size : Int) := by omega
        have ilz : (i : Int) < (d.size : Int) := by omega
        have icz : (i : Int) ≤ (cap : Int) := by omega
        have hnc : (cap = i) = False := by simp; omega
        obtain ⟨zs, hzs, hcl⟩ : ∃ zs, zs = zs ∧ ∀ ty, (Builtin.clear_ #[26] ty #[.slice (some ⟨blk, off + i, none⟩) (d.size - i) (cap - i)]).run Tryz.prog wr = .ok (.tuple #[]) (wr.setCells blk (off + i) zs) := by
          refine ⟨_, rfl, fun ty => run_clear_sliceK wr _ _ ty _ Tryz.underlying26 Tryz.zeroValue3 (zeroCells_one _ _ (by simp [Value.cells, Value.oneCell'])) blk (off + i) _ (by omega) (fun t ht => ?_) (fun t ht => ?_)⟩
          all_goals
            rw [zeroCells_len] at ht
            have ht' : t < (d.size - i) * 1 := ht
            have hb := S2.out.holds (i + t) (by rw [size_flatK]; omega)
            rw [← Nat.add_assoc] at hb
          · rw [hb.1]; rfl
          · exact hb.2
        have HS := Lib.hid S2.out
        have HI := Lib.hid I2.out
        clear hzs S2 I2
        go_wp2
        go_ret
        have hlen := HI.out.len
        refine ⟨?_, ?_, ?_⟩
        · simp only [hlen]; rfl
        · exact grown_trans_K HS.out.grown (grown_setCells _ _ _ _)
        · have := kept_rd HS.out HI.out zs
          simpa using this
end Go.Proofs.YtnmojicfmcbgmaaGreat
