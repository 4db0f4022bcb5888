/- Chapter 9's measure of a message, and how long its bytes may be. -/
import Derived.Test.YtlpplnmmcgdooaaGreatDoorAwkB
namespace Go.Proofs.YtlpplnmmcgdooaaGreatDoor
open Go.RowKit Go.Sort Nb

def fewM (m : PM) : Bool := decide (m.pay.size ≤ 1000) && decide (m.ats.size ≤ 300) && decide (m.mks.size ≤ 100)
theorem fewM_rd {w : World} {m : PM} (h : fewM m = true) (ra : RdK encA 2 w.heap.size w m.aA m.ats) (rm : RdI w.heap.size w m.mA m.mks) : RdM w m := by
  unfold fewM at h
  simp only [Bool.and_eq_true, decide_eq_true_eq] at h
  exact ⟨ra, rm, by omega, by omega, by omega⟩
theorem le_int (n k : Nat) : decide ((n : Int) ≤ (k : Int)) = decide (n ≤ k) := by simp
set_option maxRecDepth 100000 in
set_option maxHeartbeats 1000000 in
theorem Few_any (m : PM) (w : World) :
    Calls Tryz.prog 8 #[msgV m] w fun e w' => e = .returned (.bool (fewM m)) ∧ Below w.heap.size w w' := by
  have HF : Hid (fewM m = (decide (m.pay.size ≤ 1000) && decide (m.ats.size ≤ 300) && decide (m.mks.size ≤ 100))) := rfl
  unfold msgV
  by_cases h1 : m.pay.size ≤ 1000
  · have d1 : decide ((m.pay.size : Int) ≤ 1000) = true := by simp; omega
    by_cases h2 : m.ats.size ≤ 300
    · have d2 : decide ((m.ats.size : Int) ≤ 300) = true := by simp; omega
      by_cases h3 : m.mks.size ≤ 100
      · have d3 : decide ((m.mks.size : Int) ≤ 100) = true := by simp; omega
        have HV : Hid (fewM m = true) := by show _ = _; rw [HF.out]; simp [h1, h2, h3]
        clear HF h1 h2 h3
        go_enter Tryz.func8, Tryz.ntmps8
        go_wp2
        go_ret
        exact ⟨by rw [HV.out]; rfl, bel1 w _⟩
      · have d3 : decide ((m.mks.size : Int) ≤ 100) = false := by simp; omega
        have HV : Hid (fewM m = false) := by show _ = _; rw [HF.out]; simp [h3]
        clear HF h1 h2 h3
        go_enter Tryz.func8, Tryz.ntmps8
        go_wp2
        go_ret
        exact ⟨by rw [HV.out]; rfl, bel1 w _⟩
    · have d2 : decide ((m.ats.size : Int) ≤ 300) = false := by simp; omega
      have HV : Hid (fewM m = false) := by show _ = _; rw [HF.out]; simp [h2]
      clear HF h1 h2
      go_enter Tryz.func8, Tryz.ntmps8
      go_wp2
      go_ret
      exact ⟨by rw [HV.out]; rfl, bel1 w _⟩
  · have d1 : decide ((m.pay.size : Int) ≤ 1000) = false := by simp; omega
    have HV : Hid (fewM m = false) := by show _ = _; rw [HF.out]; simp [h1]
    clear HF h1
    go_enter Tryz.func8, Tryz.ntmps8
    go_wp2
    go_ret
    exact ⟨by rw [HV.out]; rfl, bel1 w _⟩
theorem msgB_le {m : PM} (h : OkM m) : (msgB m).length ≤ 10000 := by
  have l8 := flat_len _ h.l8.nats
  have l3 := flat_len _ h.l3.nats
  have la := flat_len _ h.la.nats
  have lm := flat_len _ h.lm.nats
  rw [nats_len] at l8 l3 la lm
  have e8 : (m8 m).size = 8 := rfl
  have e3 : (m3 m).size = 3 := rfl
  have ea : (flA m.ats.toList).toArray.size = 2 * m.ats.size := by rw [List.size_toArray, flA_len]; simp
  have h1 := h.ats
  have h2 := h.mks
  have h3 := h.pay
  have n1 := numB_len m.pay.size (by omega)
  have n2 := numB_len (2 * m.ats.size) (by omega)
  have n3 := numB_len m.mks.size (by omega)
  unfold msgB textB rowB
  simp only [List.length_append, nats_len, ea]
  have ep : m.pay.data.toList.length = m.pay.size := by simp
  rw [ep]
  rw [e8] at l8
  rw [e3] at l3
  rw [ea] at la
  omega
/-- A struct that was boxed, in every later world. -/
theorem heap_box {w W : World} {o : Obj} (h : Below (w.alloc o).heap.size (w.alloc o) W) : W.heap[w.heap.size]? = some o := (h.block _ (by simp)).trans (heap_new w o)
end Go.Proofs.YtlpplnmmcgdooaaGreatDoor
