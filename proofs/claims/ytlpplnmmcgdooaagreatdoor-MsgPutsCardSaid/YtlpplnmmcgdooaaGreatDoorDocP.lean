/- The document's Check in plain words: it tells what the program's tells. -/
import Derived.Test.YtlpplnmmcgdooaaGreatDoorDocN
import Derived.Test.YtlpplnmmcgdooaaGreatDoorMsgP
namespace Go.Proofs.YtlpplnmmcgdooaaGreatDoor
open Go.RowKit Nb

def c4 (m : PM) : Bool := decide (1 ≤ m.fr) && decide (m.fr ≤ 9) && (okId m.id == hasB m.k 105) && (okId m.id || decide (m.id = 0))
def c5 (m : PM) : Bool := inB (hasB m.k 116) m.t 1 1000000 && inB (hasB m.k 98) m.bal 1 1000000 && inB (hasB m.k 99) m.q 1 511 && decide (m.pay.size ≤ 300) && (hasB m.k 99 || decide (m.pay = ⟨#[]⟩))
def c7 (m : PM) : Bool := decide (0 ≤ m.abal) && decide (m.abal < m.bal) && decide (1 ≤ m.ph) && decide (m.ph ≤ 4) && (decide (0 < m.abal) || decide (3 ≤ m.ph))
def c8 (m : PM) : Bool := decide (m.abal = 0) && decide (m.ph = 0)
def c11 (m : PM) : Bool := decide (m.lo = 0) && decide (m.hi = 0) && decide (m.dn = 0) && decide (m.ats.size = 0) && decide (m.mks.size = 0)
def chkR (m : PM) : Int := if m.k < 1 ∨ 10 < m.k then 30 else if c4 m && c5 m && (if hasB m.k 97 then c7 m else c8 m) && (if hasB m.k 112 then proB m else c11 m) then 0 else 2
theorem size0 {α : Type} (d : Array α) : d.size = 0 ↔ #[] = d := by
  constructor
  · intro h; exact (Array.eq_empty_of_size_eq_zero h).symm
  · rintro rfl; rfl
set_option maxHeartbeats 4000000 in
theorem chkR_eq (m : PM) : chkR m = chkM m := by
  unfold chkR chkM
  by_cases hk : m.k < 1 ∨ 10 < m.k
  · rw [if_pos hk, if_pos hk]
  rw [if_neg hk, if_neg hk]
  have key : (c4 m && c5 m && (if hasB m.k 97 then c7 m else c8 m) && (if hasB m.k 112 then proB m else c11 m)) = (decide (1 ≤ m.fr ∧ m.fr ≤ 9) && sameM (bareM m) m && mayB m) := by
    have hks : m.k = 1 ∨ m.k = 2 ∨ m.k = 3 ∨ m.k = 4 ∨ m.k = 5 ∨ m.k = 6 ∨ m.k = 7 ∨ m.k = 8 ∨ m.k = 9 ∨ m.k = 10 := by omega
    unfold c4 c5 c7 c8 c11 sameM bareM mayB carB tolB
    generalize hpb : proB m = pb
    have hi0 : okId m.id = true → m.id ≠ 0 := by intro h; unfold okId at h; rw [decide_eq_true_eq] at h; omega
    generalize okId m.id = oi at hi0 ⊢
    have hpe : m.pay = ⟨#[]⟩ → m.pay.size ≤ 300 := by intro h; rw [h]; decide
    have ha := size0 m.ats
    have hm := size0 m.mks
    rcases hks with e | e | e | e | e | e | e | e | e | e
    all_goals
      rw [Bool.eq_iff_iff]
      simp only [e, hasB, hasT, inB, okTime, ha, hm]
      simp
      grind
  rw [key]
end Go.Proofs.YtlpplnmmcgdooaaGreatDoor
