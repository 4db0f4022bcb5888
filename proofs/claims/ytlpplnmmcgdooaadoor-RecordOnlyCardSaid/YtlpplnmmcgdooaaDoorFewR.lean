/- Chapter 11's measure of a record. -/
import Derived.Test.YtlpplnmmcgdooaaDoorAwkR
namespace Go.Proofs.YtlpplnmmcgdooaaDoor
open Go.RowKit Go.Sort Nb

def fewR (r : PR) : Bool := decide (r.st.size ≤ 19000) && decide (r.dt.size ≤ 6000)
set_option maxRecDepth 100000 in
theorem FewR_any (r : PR) (w : World) :
    Calls Tryd.prog 14 #[recV r] w fun e w' => e = .returned (.bool (fewR r)) ∧ Below w.heap.size w w' := by
  have HF : Hid (fewR r = (decide (r.st.size ≤ 19000) && decide (r.dt.size ≤ 6000))) := rfl
  unfold recV
  by_cases h1 : r.st.size ≤ 19000
  · have d1 : decide ((r.st.size : Int) ≤ 19000) = true := by simp; omega
    by_cases h2 : r.dt.size ≤ 6000
    · have d2 : decide ((r.dt.size : Int) ≤ 6000) = true := by simp; omega
      have HV : Hid (fewR r = true) := by show _ = _; rw [HF.out]; simp [h1, h2]
      clear HF h1 h2
      go_enter Tryd.func14, Tryd.ntmps14
      go_wp2
      go_ret
      exact ⟨by rw [HV.out]; rfl, bel1 w _⟩
    · have d2 : decide ((r.dt.size : Int) ≤ 6000) = false := by simp; omega
      have HV : Hid (fewR r = false) := by show _ = _; rw [HF.out]; simp [h2]
      clear HF h1 h2
      go_enter Tryd.func14, Tryd.ntmps14
      go_wp2
      go_ret
      exact ⟨by rw [HV.out]; rfl, bel1 w _⟩
  · have d1 : decide ((r.st.size : Int) ≤ 19000) = false := by simp; omega
    have HV : Hid (fewR r = false) := by show _ = _; rw [HF.out]; simp [h1]
    clear HF h1
    go_enter Tryd.func14, Tryd.ntmps14
    go_wp2
    go_ret
    exact ⟨by rw [HV.out]; rfl, bel1 w _⟩
theorem fewR_dt {r : PR} (h : fewR r = true) : r.dt.size ≤ 6000 := by
  unfold fewR at h
  simp only [Bool.and_eq_true, decide_eq_true_eq] at h
  exact h.2
/-- A record's bytes are few. -/
theorem recB_le {r : PR} (h : recC r = 0) : (recB r).length ≤ 20000 := by
  obtain ⟨h1, h2, h3, h4, hT, hF⟩ := recC_ok h
  have n1 := numB_len r.ep.toNat (by omega)
  have n2 := numB_len r.sq.toNat (by omega)
  have h5 : (flagB r.sn).length = 1 := by cases r.sn <;> rfl
  unfold recB
  simp only [List.length_append]
  cases hs : r.sn
  · obtain ⟨k1, k3, hd, -⟩ := hF hs
    have n3 := numB_len r.k.toNat (by omega)
    have n4 := numB_len r.dt.size (by omega)
    rw [hs] at h5
    simp [textB] at *
    omega
  · obtain ⟨-, -, hst⟩ := hT hs
    have n4 := numB_len r.st.size (by omega)
    rw [hs] at h5
    simp [textB] at *
    omega
end Go.Proofs.YtlpplnmmcgdooaaDoor
