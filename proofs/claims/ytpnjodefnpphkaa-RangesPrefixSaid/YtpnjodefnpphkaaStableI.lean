/- The document's merged marks. -/
import Derived.Test.YtpnjodefnpphkaaStableH
namespace Go.Proofs.Ytpnjodefnpphkaa
open Go.RowKit Go.Sort Go.Lib

def mrgL (d1 d2 : Array Int) : Nat → List Int
  | 0 => []
  | k + 1 => mrgL d1 d2 k ++ [mrgAt d1 d2 k]
theorem mrgL_len (d1 d2 : Array Int) (k : Nat) : (mrgL d1 d2 k).length = k := by
  induction k with
  | zero => rfl
  | succ k ih => simp [mrgL, ih]
theorem mrgL_eq (d1 d2 : Array Int) : ∀ k, mrgL d1 d2 k = (List.range k).map (mrgAt d1 d2)
  | 0 => rfl
  | k + 1 => by rw [mrgL, mrgL_eq d1 d2 k, List.range_succ, List.map_append]; rfl
set_option maxHeartbeats 4000000 in
set_option maxRecDepth 100000 in
theorem rMerge_any (A1 A2 : Option Addr) (c1 c2 : Nat) (d1 d2 : Array Int) (w : World) (h1 : RdI w.heap.size w A1 d1) (h2 : RdI w.heap.size w A2 d2) (hd1 : d1.size ≤ 100000000) (hd2 : d2.size ≤ 100000000) :
    Calls Try.prog 22 #[.slice A1 d1.size c1, .slice A2 d2.size c2] w fun e w' => ∃ A c, e = .returned (.slice A (mergeN d1 d2).size c) ∧ RdI w'.heap.size w' A (mergeN d1 d2) ∧ Below w.heap.size w w' := by
  obtain ⟨i0, hi0, hz0, hz1, hz2⟩ := info_parts int_info
  go_enter Try.func22, Try.ntmps22
  go_wp2
  go_loopw [5, 6] (fun v i wr => ∃ k : Nat, k ≤ max d1.size d2.size ∧ i = .int .i64 k ∧ wr.ownsRow w.heap.size 3 1 v (mrgL d1 d2 k).length ((mrgL d1 d2 k).map (Value.int .i64)) ∧ Below w.heap.size w wr) (fun _ i _ => max d1.size d2.size - (intOf i).toNat)
  case atStart => exact ⟨0, Nat.zero_le _, rfl, ⟨rfl, Or.inl ⟨rfl, rfl⟩⟩, Below.refl _ _⟩
  case round =>
    obtain ⟨k, hk, rfl, hown, hb⟩ := hrel
    by_cases hlt : k < max d1.size d2.size
    · have HS : Hid (mrgL d1 d2 (k + 1) = mrgL d1 d2 k ++ [mrgAt d1 d2 k]) := rfl
      have hlen : (mrgL d1 d2 k).length ≤ 100000000 := by rw [mrgL_len]; omega
      generalize mrgL d1 d2 k = l at HS hown hlen
      by_cases k2 : k < d2.size
      · by_cases k1 : k < d1.size
        · obtain ⟨b1, o1, rfl, _, f1⟩ := (h1.below hb).at_ k1
          obtain ⟨b2, o2, rfl, _, f2⟩ := (h2.below hb).at_ k2
          have HV : Hid (mrgAt d1 d2 k = max d1[k]! d2[k]!) := by show _ = _; unfold mrgAt; rw [if_pos k1, if_pos k2]
          generalize d1[k]! = x at f1 HV
          generalize d2[k]! = y at f2 HV
          have z1 : (k : Int) < (d1.size : Int) := by omega
          have z2 : (k : Int) < (d2.size : Int) := by omega
          have g1 : decide ((d1.size : Int) ≤ (k : Int)) = false := by simp; omega
          have g2 : decide ((d2.size : Int) ≤ (k : Int)) = false := by simp; omega
          by_cases hxy : x < y
          · have HV2 : Hid (mrgAt d1 d2 k = y) := by show _ = _; rw [HV.out]; omega
            go_wp2
            go_quiet (fail)
            go_wp2_with (at_builtin; refine wpList_append_own _ rfl _ _ 22 rfl w.heap.size 3 i0 (.int .i64 0) 1 8 Try.underlying22 hi0 hz0 hz1 hz2 rfl (by decide) _ _ _ rfl (World.ownsRow.alloc (w := wr.drewN nq) hown _) ⟨(wr.drewN nq).heap.size, 0, none⟩ 1 1 [.int .i64 y] rfl rfl ?c1 ?c2 ?c3 ?c4 ?c5 ?_)
            case c1 => exact app_cell _ _ _
            case c2 => intro u hu; simp at hu; subst hu; rfl
            case c3 => unfold maxLen; omega
            case c4 => omega
            case c5 => exact (belAlloc (belDrewN hb nq) _).size
            intro v' w1 hown' hgrow _
            go_wp2
            go_roundw
            case rel => exact ⟨k + 1, by omega, by go_num, by rw [HS.out, HV2.out]; exact own_snoc hown', app_below (wr := wr.drewN nq) (belDrewN hb nq) hown hgrow⟩
            case measure => simp [intOf]; omega
          · have hyx : y ≤ x := by omega
            have hdc : decide (x < y) = false := by simp; omega
            have HV2 : Hid (mrgAt d1 d2 k = x) := by show _ = _; rw [HV.out]; omega
            clear hxy
            go_wp2
            go_quiet (fail)
            go_wp2_with (at_builtin; refine wpList_append_own _ rfl _ _ 22 rfl w.heap.size 3 i0 (.int .i64 0) 1 8 Try.underlying22 hi0 hz0 hz1 hz2 rfl (by decide) _ _ _ rfl (World.ownsRow.alloc (w := wr.drewN nq) hown _) ⟨(wr.drewN nq).heap.size, 0, none⟩ 1 1 [.int .i64 x] rfl rfl ?c1 ?c2 ?c3 ?c4 ?c5 ?_)
            case c1 => exact app_cell _ _ _
            case c2 => intro u hu; simp at hu; subst hu; rfl
            case c3 => unfold maxLen; omega
            case c4 => omega
            case c5 => exact (belAlloc (belDrewN hb nq) _).size
            intro v' w1 hown' hgrow _
            go_wp2
            go_roundw
            case rel => exact ⟨k + 1, by omega, by go_num, by rw [HS.out, HV2.out]; exact own_snoc hown', app_below (wr := wr.drewN nq) (belDrewN hb nq) hown hgrow⟩
            case measure => simp [intOf]; omega
        · obtain ⟨b2, o2, rfl, _, f2⟩ := (h2.below hb).at_ k2
          have HV2 : Hid (mrgAt d1 d2 k = d2[k]!) := by show _ = _; unfold mrgAt; rw [if_neg k1]
          generalize d2[k]! = y at f2 HV2
          have z2 : (k : Int) < (d2.size : Int) := by omega
          have z1 : decide ((k : Int) < (d1.size : Int)) = false := by simp; omega
          have g1 : decide ((d1.size : Int) ≤ (k : Int)) = true := by simp; omega
          have g2 : decide ((d2.size : Int) ≤ (k : Int)) = false := by simp; omega
          have g3 : (d1.size : Int) ≤ (k : Int) := by omega
          clear k1
          go_wp2
          go_quiet (fail)
          go_wp2_with (at_builtin; refine wpList_append_own _ rfl _ _ 22 rfl w.heap.size 3 i0 (.int .i64 0) 1 8 Try.underlying22 hi0 hz0 hz1 hz2 rfl (by decide) _ _ _ rfl (World.ownsRow.alloc (w := wr.drewN nq) hown _) ⟨(wr.drewN nq).heap.size, 0, none⟩ 1 1 [.int .i64 y] rfl rfl ?c1 ?c2 ?c3 ?c4 ?c5 ?_)
          case c1 => exact app_cell _ _ _
          case c2 => intro u hu; simp at hu; subst hu; rfl
          case c3 => unfold maxLen; omega
          case c4 => omega
          case c5 => exact (belAlloc (belDrewN hb nq) _).size
          intro v' w1 hown' hgrow _
          go_wp2
          go_roundw
          case rel => exact ⟨k + 1, by omega, by go_num, by rw [HS.out, HV2.out]; exact own_snoc hown', app_below (wr := wr.drewN nq) (belDrewN hb nq) hown hgrow⟩
          case measure => simp [intOf]; omega
      · have k1 : k < d1.size := by omega
        obtain ⟨b1, o1, rfl, _, f1⟩ := (h1.below hb).at_ k1
        have HV2 : Hid (mrgAt d1 d2 k = d1[k]!) := by show _ = _; unfold mrgAt; rw [if_pos k1, if_neg k2]
        generalize d1[k]! = x at f1 HV2
        have z1 : (k : Int) < (d1.size : Int) := by omega
        have g2 : decide ((d2.size : Int) ≤ (k : Int)) = true := by simp; omega
        have g3 : (d2.size : Int) ≤ (k : Int) := by omega
        clear k2
        go_wp2_with (at_builtin; refine wpList_append_own _ rfl _ _ 22 rfl w.heap.size 3 i0 (.int .i64 0) 1 8 Try.underlying22 hi0 hz0 hz1 hz2 rfl (by decide) _ _ _ rfl (hown.alloc _) ⟨wr.heap.size, 0, none⟩ 1 1 [.int .i64 x] rfl rfl ?c1 ?c2 ?c3 ?c4 ?c5 ?_)
        case c1 => exact app_cell _ _ _
        case c2 => intro u hu; simp at hu; subst hu; rfl
        case c3 => unfold maxLen; omega
        case c4 => omega
        case c5 => exact (belAlloc hb _).size
        intro v' w1 hown' hgrow _
        go_wp2
        go_roundw
        case rel => exact ⟨k + 1, by omega, by go_num, by rw [HS.out, HV2.out]; exact own_snoc hown', app_below hb hown hgrow⟩
        case measure => simp [intOf]; omega
    · obtain rfl : k = max d1.size d2.size := by omega
      have z1 : decide (((max d1.size d2.size : Nat) : Int) < (d1.size : Int)) = false := by simp; omega
      have z2 : decide (((max d1.size d2.size : Nat) : Int) < (d2.size : Int)) = false := by simp; omega
      have y1 : (d1.size : Int) ≤ ((max d1.size d2.size : Nat) : Int) := by omega
      have y2 : (d2.size : Int) ≤ ((max d1.size d2.size : Nat) : Int) := by omega
      have hm : (mrgL d1 d2 (max d1.size d2.size)).toArray = mergeN d1 d2 := by rw [mrgL_eq]; rfl
      obtain ⟨A', c', rfl, hr⟩ := rdI_of_owns hown
      rw [hm] at hr
      have hz : (mrgL d1 d2 (max d1.size d2.size)).length = (mergeN d1 d2).size := by rw [← hm]; simp
      rw [hz]
      have HR := Lib.hid hr
      have HOW := Lib.hid hown
      clear hr hown hm hz
      generalize (max d1.size d2.size : Nat) = mx at *
      go_wp2
      go_ret
      exact ⟨A', c', rfl, HR.out, hb⟩
end Go.Proofs.Ytpnjodefnpphkaa
