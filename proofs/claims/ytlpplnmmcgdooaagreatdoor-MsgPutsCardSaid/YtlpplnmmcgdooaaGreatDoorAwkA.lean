/- Chapter 9's probes: plain facts, and the name of a kind. -/
import Derived.Test.YtlpplnmmcgdooaaGreatDoorMsgT
import Derived.Test.YtlpplnmmcgdooaaGreatDoorErrE
namespace Go.Proofs.YtlpplnmmcgdooaaGreatDoor
open Go.RowKit Go.Sort Nb

def awM : PM := { k := 8, fr := 2, id := 11, t := 0, bal := 4, abal := 0, ph := 0, q := 0, pay := ⟨#[]⟩, lo := 0, hi := 0, aA := none, aC := 0, ats := #[], mA := none, mC := 0, mks := #[], dn := 0 }
def awN : PM := { k := 8, fr := 2, id := 11, t := 1, bal := 4, abal := 0, ph := 0, q := 0, pay := ⟨#[]⟩, lo := 0, hi := 0, aA := none, aC := 0, ats := #[], mA := none, mC := 0, mks := #[], dn := 0 }
theorem awM_rd (w : World) : RdM w awM := ⟨fun h => absurd h (by decide), RdI.none_, by decide, by decide, by decide⟩
theorem awN_rd (w : World) : RdM w awN := ⟨fun h => absurd h (by decide), RdI.none_, by decide, by decide, by decide⟩
theorem sameM_self (m : PM) : sameM m m = true := by rw [sameM_iff]; simp
theorem awM_bare : bareM awM = awM := by unfold bareM awM; simp
theorem awM_chk : chkM awM = 0 := by
  unfold chkM
  rw [awM_bare, sameM_self, if_neg (by decide)]
  have : mayB awM = true := by decide
  rw [this]
  rfl
theorem awN_chk : chkM awN = 2 := by
  unfold chkM
  have : sameM (bareM awN) awN = false := by
    rw [Bool.eq_false_iff]
    intro h
    have := (sameM_iff.1 h).2.2.2.1
    exact absurd this (by decide)
  rw [this, if_neg (by decide)]
  simp
theorem zM_chk : chkM zM = 30 := by unfold chkM; rw [if_pos (by decide)]
/-- The bytes of the probe. -/
def awB : ByteArray := ⟨#[8, 2, 11, 0, 4, 0, 0, 0, 0, 0, 0, 0, 0, 0]⟩
def awX : ByteArray := ⟨#[8, 2, 11, 0, 4, 0, 0, 0, 0, 0, 0, 0, 0, 0, 120]⟩
theorem awB_eq : msgB awM = awB.data.toList := by decide
theorem takeC_6 {s t : List UInt8} (h : takeC s = 0) (ht : t ≠ []) : takeC (s ++ t) = 6 := by
  obtain ⟨_, _, h3, h4⟩ := takeC_ok h none 0 none 0
  have e := raw_laid _ (okM_of h3) t
  rw [h4] at e
  have : (rawOf (s ++ t)).r.e = 6 := by
    rw [e]
    have : 0 < t.length := List.length_pos_iff.2 ht
    show (endR (s ++ t) ⟨s.length, 0⟩).e = 6
    unfold endR
    rw [if_pos ⟨rfl, by rw [List.length_append]; show s.length < _; omega⟩]
  unfold takeC
  rw [this]
  simp
theorem awB_take : takeC awB.data.toList = 0 := by rw [← awB_eq]; exact takeC_laid awM awM_chk
theorem awX_take : takeC awX.data.toList = 6 := takeC_6 (s := awB.data.toList) (t := [120]) awB_take (by simp)
theorem awB_bal (aA : Option Addr) (aC : Nat) (mA : Option Addr) (mC : Nat) : (pmOf (rawOf awB.data.toList) aA aC mA mC).bal = 4 := by
  have := raw_same awM (okM_of awM_chk) [] aA aC mA mC
  rw [List.append_nil, awB_eq, sameM_iff] at this
  exact this.2.2.2.2.1.symm
set_option maxRecDepth 100000 in
set_option maxHeartbeats 1000000 in
theorem name8_any (w : World) :
    Calls Tryz.prog 17 #[.int .i64 8] w fun e w' => e = .returned (.string ⟨#[114, 101, 102, 117, 115, 101]⟩) ∧ Below w.heap.size w w' := by
  go_enter Tryz.func17, Tryz.ntmps17
  go_wp2
  go_ret
  exact ⟨rfl, bel1 w _⟩
set_option maxRecDepth 100000 in
set_option maxHeartbeats 1000000 in
theorem name11_any (w : World) :
    Calls Tryz.prog 17 #[.int .i64 11] w fun e w' => e = .returned (.string ⟨#[]⟩) ∧ Below w.heap.size w w' := by
  go_enter Tryz.func17, Tryz.ntmps17
  go_wp2
  go_ret
  exact ⟨rfl, bel1 w _⟩
end Go.Proofs.YtlpplnmmcgdooaaGreatDoor
