/- Contracts of the document's ranges: edges. -/
import Derived.Test.YtpnjodefnpphkaaRangesM
namespace Go.Proofs.Ytpnjodefnpphkaa
open Go.RowKit Go.Sort Go.Lib

/-- The value is a slice that reads as the list. -/
def RowI (w : World) (v : Value) (l : List Int) : Prop := ∃ b off c, v = .slice (some ⟨b, off, none⟩) l.length c ∧ l.length ≤ c ∧ b < w.heap.size ∧ ∀ i, i < l.length → w.cell? ⟨b, off + i, none⟩ = some (.int .i64 l.toArray[i]!)
theorem putL_pos (n : Int) : ∀ l : List Int, 0 < (putL n l).length
  | [] => by simp [putL]
  | x :: l => by unfold putL; split <;> (try split) <;> simp
theorem put_row {w : World} {v : Value} {l : List Int} {n : Int} (h : RowI w v l) (h0 : 0 < l.length) (h1 : l.length ≤ 1000000) :
    Calls Try.prog 91 #[v, .int .i64 n] w fun e w' => ∃ v', e = .returned v' ∧ RowI w' v' (putL n l) ∧ Below w.heap.size w w' ∧ 0 < (putL n l).length ∧ (putL n l).length ≤ l.length + 1 := by
  obtain ⟨b, off, c, rfl, h2, h3, h4⟩ := h
  have := put_any b off c l.toArray n w (by simpa using h0) (by simpa using h2) (by simpa using h1) h3 (by simpa using h4)
  refine this.mono ?_
  rintro e w' ⟨b', off', c', rfl, k1, k2, k3, k4⟩
  exact ⟨_, rfl, ⟨b', off', c', rfl, k1, k2, k3⟩, k4, putL_pos n l, putL_len n l⟩
set_option maxRecDepth 100000 in
set_option maxHeartbeats 4000000 in
theorem edges_any (A : Option Addr) (c : Nat) (d : Array (Int × Int)) (w : World) (h : RdK encR 2 w.heap.size w A d) (hd : d.size ≤ 400000) :
    Calls Try.prog 74 #[.slice A d.size c] w fun e w' => ∃ v, e = .returned v ∧ RowI w' v (edgesN d d.size) ∧ Below w.heap.size w w' := by
  go_enter Try.func74, Try.ntmps74
  go_wp2
  go_loopw [3, 4] (fun v i wr => ∃ k : Nat, k ≤ d.size ∧ i = .int .i64 k ∧ RowI wr v (edgesN d k) ∧ 0 < (edgesN d k).length ∧ Below w.heap.size w wr) (fun _ i _ => d.size - (intOf i).toNat)
  case atStart => exact ⟨0, Nat.zero_le _, rfl, ⟨w.heap.size, 0, 1, rfl, Nat.le_refl _, by simp, fun i hi => by
    obtain rfl : i = 0 := by simp [edgesN] at hi; omega
    exact cell_new w _ _ 0⟩, by simp [edgesN], bel1 _ _⟩
  case round =>
    obtain ⟨k, hk, rfl, hrow, hl0, hb⟩ := hrel
    have hl1 := edgesN_len d k
    by_cases hlt : k < d.size
    · obtain ⟨b, off, rfl, hbb, f⟩ := (h.below hb).at_ hlt
      have f0 := f 0 (by omega)
      have f1 := f 1 (by omega)
      have HE := Lib.hid (edgesN_succ d k)
      generalize d[k]! = x at f0 f1 HE
      simp only [Nat.add_zero, encR, List.getElem!_cons_zero, List.getElem!_cons_succ] at f0 f1
      clear f
      generalize edgesN d k = E at hrow HE hl0 hl1
      have hbz := hb.size
      have kz : (k : Int) < (d.size : Int) := by omega
      go_wp2_with (go_at_call 91; first
        | ((with_reducible refine (put_row hrow (by omega) (by omega)).mono ?_); rintro e w1 ⟨v1, rfl, hrow1, hb1, hp1, hp2⟩; have g1 : w1.cell? ⟨b, off + k * 2 + 1, none⟩ = some (.int .i64 x.2) := (hb1.cell (p := ⟨b, off + k * 2 + 1, none⟩) (by show b < _; omega)).trans f1)
        | ((with_reducible refine (put_row hrow1 (by omega) (by omega)).mono ?_); rintro e w2 ⟨v2, rfl, hrow2, hb2, hp3, hp4⟩))
      all_goals first
        | (have key : edgesN d (k + 1) = putL (x.2 + 1) (putL x.1 E) := by rw [HE.out, if_pos (show 1 ≤ x.2 ∧ x.2 < 1000000 by omega), if_pos (show 1 < x.1 ∧ x.1 ≤ 1000000 by omega)]
           exact ⟨⟨k + 1, by omega, by go_num, by rw [key]; exact hrow2, by rw [key]; exact hp3, belStep (belStep hb hb1) hb2⟩, by simp [intOf]; omega⟩)
        | (have key : edgesN d (k + 1) = putL x.1 E := by rw [HE.out, if_neg (show ¬ (1 ≤ x.2 ∧ x.2 < 1000000) by omega), if_pos (show 1 < x.1 ∧ x.1 ≤ 1000000 by omega)]
           exact ⟨⟨k + 1, by omega, by go_num, by rw [key]; exact hrow1, by rw [key]; exact hp1, belStep hb hb1⟩, by simp [intOf]; omega⟩)
        | (have key : edgesN d (k + 1) = putL (x.2 + 1) E := by rw [HE.out, if_pos (show 1 ≤ x.2 ∧ x.2 < 1000000 by omega), if_neg (show ¬ (1 < x.1 ∧ x.1 ≤ 1000000) by omega)]
           exact ⟨⟨k + 1, by omega, by go_num, by rw [key]; exact hrow1, by rw [key]; exact hp1, belStep hb hb1⟩, by simp [intOf]; omega⟩)
        | (have key : edgesN d (k + 1) = E := by rw [HE.out, if_neg (show ¬ (1 ≤ x.2 ∧ x.2 < 1000000) by omega), if_neg (show ¬ (1 < x.1 ∧ x.1 ≤ 1000000) by omega)]
           exact ⟨⟨k + 1, by omega, by go_num, by rw [key]; exact hrow, by rw [key]; exact hl0, hb⟩, by simp [intOf]; omega⟩)
    · obtain rfl : k = d.size := by omega
      go_wp2
      go_ret
      exact ⟨_, rfl, hrow, hb⟩
end Go.Proofs.Ytpnjodefnpphkaa
