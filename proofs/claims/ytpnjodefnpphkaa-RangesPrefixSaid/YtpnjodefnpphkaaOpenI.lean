/- An argument that is a slice of ints, opened. -/
import Derived.Test.YtpnjodefnpphkaaOpen
import Derived.Test.YtpnjodefnpphkaaInts
namespace Go.Proofs.Ytpnjodefnpphkaa
open Go.ChangeShapes Go.WideShapes Go.ChangeAt Go.RowKit
section
variable {H : Type} {enc : TypeId × Value → H} {P : Program} {w : World}
theorem block_of_cell {a : Addr} {v : Value} (h : w.cell? a = some v) : a.block < w.heap.size := by
  rcases Nat.lt_or_ge a.block w.heap.size with hl | hl
  · exact hl
  · unfold World.cell? at h
    rw [Array.getElem?_eq_none hl] at h
    cases h
theorem open_rdI {r : Reach} {b0 : Nat} {t e : TypeId} {v : Value} {d : DataW H} {p : List MemPlace} (ht : P.underlying t = some (.slice e)) (he : P.underlying e = some (.int .i64)) (hC : P.cellsOf e = 1)
    (hv : Value.okWide P w r b0 t v) (h : DataW.Trod enc P w 0 (fun _ => true) true t v d p) :
    ∃ (A : Option Addr) (c : Nat) (z : Array Int), v = .slice A z.size c ∧ RdI w.heap.size w A z ∧ z.size ≤ 9223372036854775807 ∧ ∀ x ∈ z.toList, (Lit.int .i64 x).wf = true := by
  obtain ⟨a0, len, cap, rfl⟩ := okWide_slice ht hv
  obtain ⟨fuel, hf⟩ := h
  rcases open_ints ht he hC hf with ⟨hcs, _⟩ | ⟨a, len', cap', zs, hcs, _, hl, hm, hz, _, hcell, hwz⟩
  · simp [Value.cells] at hcs
    obtain ⟨rfl, rfl, rfl⟩ := hcs
    exact ⟨none, 0, #[], rfl, RdI.none_, by simp, by simp⟩
  · simp [Value.cells] at hcs
    obtain ⟨rfl, rfl, rfl⟩ := hcs
    simp at hz
    have hsz : (zs.take len).toArray.size = len := by simp; omega
    refine ⟨some a, cap, (zs.take len).toArray, by rw [hsz], fun h0 => ?_, by rw [hsz]; unfold maxLen at hm; omega, fun x hx => hwz x (List.mem_of_mem_take (by simpa using hx))⟩
    rw [hsz] at h0
    obtain ⟨b, off, rfl, hc⟩ := ints_at hcell (by omega)
    refine ⟨b, off, rfl, block_of_cell (hc 0 (by omega)), fun i hi => ?_⟩
    rw [hsz] at hi
    rw [hc i (by omega), getElem!_pos _ i (by rw [hsz]; exact hi)]
    simp [List.getD, show i < zs.length by omega]
theorem open_rdI0 {r : Reach} {b0 : Nat} {t e : TypeId} {v : Value} {d : DataW H} {p : List MemPlace} (ht : P.underlying t = some (.slice e)) (he : P.underlying e = some (.int .i64)) (hC : P.cellsOf e = 1)
    (hv : Value.okWide P w r b0 t v) (h : DataW.Trod enc P w 0 (fun _ => true) true t v d p) :
    ∃ (A : Option Addr) (c : Nat) (z : Array Int), v = .slice A z.size c ∧ RdI w.heap.size w A z ∧ (A = none → c = 0) := by
  obtain ⟨A, c, z, rfl, hr, _, _⟩ := open_rdI ht he hC hv h
  refine ⟨A, c, z, rfl, hr, ?_⟩
  rintro rfl
  obtain ⟨fuel, hf⟩ := h
  rcases open_ints ht he hC hf with ⟨hcs, _⟩ | ⟨a, len', cap', zs, hcs, _⟩
  · simp [Value.cells] at hcs; exact hcs.2
  · simp [Value.cells] at hcs
end
end Go.Proofs.Ytpnjodefnpphkaa
