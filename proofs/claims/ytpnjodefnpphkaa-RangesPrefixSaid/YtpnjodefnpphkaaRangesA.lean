/- Contracts of the layer 'ranges': Check. -/
import Derived.Test.YtpnjodefnpphkaaRead
import Derived.Test.YtpnjodefnpphkaaShelf
namespace Go.Proofs.Ytpnjodefnpphkaa
open Go.RowKit Go.Sort Go.Lib

def encR (x : Int × Int) : List Value := [.int .i64 x.1, .int .i64 x.2]
/-- Is the k-th range bad, or not above the one ahead of it? -/
def badAt (d : Array (Int × Int)) (k : Nat) : Bool := decide (d[k]!.1 < 1 ∨ 1000000 < d[k]!.2 ∨ d[k]!.2 < d[k]!.1 ∨ (0 < k ∧ d[k]!.1 - 1 ≤ d[k - 1]!.2))
def setE (d : Array (Int × Int)) : Int := if 1000 < d.size ∨ (List.range d.size).any (badAt d) = true then 2 else 0
theorem setE_bad {d : Array (Int × Int)} {k : Nat} (hk : k < d.size) (h : badAt d k = true) : setE d = 2 := by
  unfold setE; rw [if_pos]; right; rw [List.any_eq_true]; exact ⟨k, by simpa using hk, h⟩
theorem setE_big {d : Array (Int × Int)} (h : 1000 < d.size) : setE d = 2 := by unfold setE; rw [if_pos (Or.inl h)]
theorem setE_ok {d : Array (Int × Int)} (h1 : d.size ≤ 1000) (h : ∀ k, k < d.size → badAt d k = false) : setE d = 0 := by
  unfold setE; rw [if_neg]
  rintro (h' | h')
  · omega
  · rw [List.any_eq_true] at h'
    obtain ⟨k, hk, hb⟩ := h'
    rw [h k (by simpa using hk)] at hb; cases hb
theorem setE_all {d : Array (Int × Int)} (h : setE d = 0) : d.size ≤ 1000 ∧ ∀ k, k < d.size → badAt d k = false := by
  unfold setE at h
  split at h
  · cases h
  · rename_i hh
    refine ⟨by omega, fun k hk => ?_⟩
    cases hb : badAt d k
    · rfl
    · exact absurd (Or.inr (by rw [List.any_eq_true]; exact ⟨k, by simpa using hk, hb⟩)) hh
/-- The end of the range ahead of the k-th. -/
def lastN (d : Array (Int × Int)) (k : Nat) : Int := if k = 0 then -1 else d[k - 1]!.2
set_option maxHeartbeats 2000000 in
theorem gCheck_any (A : Option Addr) (c : Nat) (d : Array (Int × Int)) (w : World) (h : RdK encR 2 w.heap.size w A d) :
    Calls Try.prog 24 #[.slice A d.size c] w fun e w' => e = .returned (.int .i64 (setE d)) ∧ Below w.heap.size w w' := by
  by_cases hd : 1000 < d.size
  · have HE := Lib.hid (setE_big hd)
    have hz : (1000 : Int) < (d.size : Int) := by omega
    go_enter Try.func24, Try.ntmps24
    go_wp2
    go_ret
    exact ⟨ret_int HE.out.symm, Below.refl _ _⟩
  · have hd' : d.size ≤ 1000 := by omega
    have hz : decide ((1000 : Int) < (d.size : Int)) = false := by simp; omega
    clear hd
    have HOK := Lib.hid (setE_ok hd')
    go_enter Try.func24, Try.ntmps24
    go_wp2
    go_loopw [3, 11] (fun l i wr => ∃ k : Nat, k ≤ d.size ∧ i = .int .i64 k ∧ l = .int .i64 (lastN d k) ∧ -1 ≤ lastN d k ∧ lastN d k ≤ 1000000 ∧ (∀ j, j < k → badAt d j = false) ∧ Below w.heap.size w wr) (fun _ i _ => d.size - (intOf i).toNat)
    case atStart => exact ⟨0, Nat.zero_le _, rfl, rfl, by simp [lastN], by simp [lastN], fun j hj => absurd hj (by omega), Below.refl _ _⟩
    case round =>
      obtain ⟨k, hk, rfl, rfl, l1, l2, hj, hb⟩ := hrel
      have HJ := Lib.hid hj; clear hj
      by_cases hlt : k < d.size
      · obtain ⟨b, off, rfl, _, f⟩ := (h.below hb).at_ hlt
        have f0 := f 0 (by omega)
        have f1 := f 1 (by omega)
        have HB : Hid (badAt d k = decide (d[k]!.1 < 1 ∨ 1000000 < d[k]!.2 ∨ d[k]!.2 < d[k]!.1 ∨ d[k]!.1 ≤ lastN d k + 1)) := by
          show _ = _
          unfold badAt lastN
          rw [decide_eq_decide]
          by_cases h0 : k = 0
          · subst h0; simp; omega
          · rw [if_neg h0]; constructor <;> intro hh <;> omega
        have HL : Hid (lastN d (k + 1) = d[k]!.2) := by show _ = _; unfold lastN; rw [if_neg (by omega)]; rfl
        have HBB := Lib.hid (fun h => @setE_bad d k hlt h)
        generalize d[k]! = x at f0 f1 HB HL
        simp only [Nat.add_zero, encR, List.getElem!_cons_zero, List.getElem!_cons_succ] at f0 f1
        generalize lastN d k = l at *
        clear f
        have kz : (k : Int) < (d.size : Int) := by omega
        go_wp2
        all_goals first
          | (go_ret; exact ⟨ret_int (HBB.out (by rw [HB.out]; simp; omega)).symm, belAlloc hb _⟩)
          | exact ⟨⟨k + 1, by omega, by go_num, by rw [HL.out], by rw [HL.out]; omega, by rw [HL.out]; omega, fun j hj => by
              rcases Nat.lt_or_ge j k with h' | h'
              · exact HJ.out j h'
              · obtain rfl : j = k := by omega
                rw [HB.out]; simp; omega, belAlloc hb _⟩, by simp [intOf]; omega⟩
      · go_wp2
        go_ret
        exact ⟨ret_int (HOK.out fun j hj => HJ.out j (by omega)).symm, hb⟩
end Go.Proofs.Ytpnjodefnpphkaa
