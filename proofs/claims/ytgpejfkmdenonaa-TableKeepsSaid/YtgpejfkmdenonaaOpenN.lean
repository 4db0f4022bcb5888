/- Arguments that are commands, opened. -/
import Derived.Test.YtgpejfkmdenonaaOpenG
import Derived.Test.YtgpejfkmdenonaaTbA
namespace Go.Proofs.Ytgpejfkmdenonaa
open Go.ChangeShapes Go.WideShapes Go.ChangeAt Go.RowKit Go.Deep Go.Joins
set_option maxRecDepth 100000
theorem ackU : Try.prog.underlying 78 = some (.struct (Try.prog.fieldsOf 78)) := by kernel_rfl
theorem ackT : (Try.prog.fieldsOf 78).map (·.type) = #[3, 3, 3, 3, 3, 3] := by kernel_rfl
theorem ackO : oneCellFields Try.prog (Try.prog.fieldsOf 78) = true := by kernel_rfl
theorem ackC : Try.prog.cellsOf 78 = (Try.prog.fieldsOf 78).size := by kernel_rfl
theorem ackS : (Try.prog.fieldsOf 78).size = 6 := by kernel_rfl
theorem entU : Try.prog.underlying 25 = some (.struct (Try.prog.fieldsOf 25)) := by kernel_rfl
theorem entT : (Try.prog.fieldsOf 25).map (·.type) = #[3, 3, 3, 3, 3, 3, 3, 3, 9, 23] := by kernel_rfl
theorem entO : oneCellFields Try.prog (Try.prog.fieldsOf 25) = true := by kernel_rfl
theorem entC : Try.prog.cellsOf 25 = (Try.prog.fieldsOf 25).size := by kernel_rfl
theorem entS : (Try.prog.fieldsOf 25).size = 10 := by kernel_rfl
section
variable {H : Type} {enc : TypeId × Value → H} {w : World}
theorem list_ext_N {a b : List Value} (n : Nat) (ha : a.length = n) (hb : b.length = n) (h : ∀ j, j < n → a[j]? = b[j]?) : a = b := by
  apply List.ext_getElem?
  intro j
  rcases Nat.lt_or_ge j n with hj | hj
  · exact h j hj
  · rw [List.getElem?_eq_none (by omega), List.getElem?_eq_none (by omega)]
theorem trod_ack {n : Nat} {cs : List Value} {x : DataW H × List MemPlace} (h : DataW.trod enc Try.prog w 0 (fun _ => true) true n 78 cs = some x) : ∃ a : AK, cs = encK a ∧ True := by
  obtain ⟨hl, hf⟩ := trod_fields ackU ackO ackC h
  rw [ackS] at hl
  have hty : ∀ j u, (#[3, 3, 3, 3, 3, 3] : Array TypeId)[j]? = some u → ∃ c y m, cs[j]? = some c ∧ DataW.trod enc Try.prog w 0 (fun _ => true) true m u [c] = some y := fun j u hj => hf j u (by rw [← ackT, Array.getElem?_map] at hj; exact hj)
  obtain ⟨c0, _, _, k0, g0⟩ := hty 0 _ rfl
  obtain ⟨x0, rfl⟩ := trod_cell_int Try.underlying3 g0
  obtain ⟨c1, _, _, k1, g1⟩ := hty 1 _ rfl
  obtain ⟨x1, rfl⟩ := trod_cell_int Try.underlying3 g1
  obtain ⟨c2, _, _, k2, g2⟩ := hty 2 _ rfl
  obtain ⟨x2, rfl⟩ := trod_cell_int Try.underlying3 g2
  obtain ⟨c3, _, _, k3, g3⟩ := hty 3 _ rfl
  obtain ⟨x3, rfl⟩ := trod_cell_int Try.underlying3 g3
  obtain ⟨c4, _, _, k4, g4⟩ := hty 4 _ rfl
  obtain ⟨x4, rfl⟩ := trod_cell_int Try.underlying3 g4
  obtain ⟨c5, _, _, k5, g5⟩ := hty 5 _ rfl
  obtain ⟨x5, rfl⟩ := trod_cell_int Try.underlying3 g5
  refine ⟨⟨x0, x1, x2, x3, x4, x5⟩, list_ext_N 6 hl rfl fun j hj => ?_, trivial⟩
  rcases (show j = 0 ∨ j = 1 ∨ j = 2 ∨ j = 3 ∨ j = 4 ∨ j = 5 by omega) with rfl | rfl | rfl | rfl | rfl | rfl
  · exact k0
  · exact k1
  · exact k2
  · exact k3
  · exact k4
  · exact k5
theorem trod_ent {n : Nat} {cs : List Value} {x : DataW H × List MemPlace} (h : DataW.trod enc Try.prog w 0 (fun _ => true) true n 25 cs = some x) : ∃ a : EN, cs = encE a ∧ RdE0 w a := by
  obtain ⟨hl, hf⟩ := trod_fields entU entO entC h
  rw [entS] at hl
  have hty : ∀ j u, (#[3, 3, 3, 3, 3, 3, 3, 3, 9, 23] : Array TypeId)[j]? = some u → ∃ c y m, cs[j]? = some c ∧ DataW.trod enc Try.prog w 0 (fun _ => true) true m u [c] = some y := fun j u hj => hf j u (by rw [← entT, Array.getElem?_map] at hj; exact hj)
  obtain ⟨c0, _, _, k0, g0⟩ := hty 0 _ rfl
  obtain ⟨x0, rfl⟩ := trod_cell_int Try.underlying3 g0
  obtain ⟨c1, _, _, k1, g1⟩ := hty 1 _ rfl
  obtain ⟨x1, rfl⟩ := trod_cell_int Try.underlying3 g1
  obtain ⟨c2, _, _, k2, g2⟩ := hty 2 _ rfl
  obtain ⟨x2, rfl⟩ := trod_cell_int Try.underlying3 g2
  obtain ⟨c3, _, _, k3, g3⟩ := hty 3 _ rfl
  obtain ⟨x3, rfl⟩ := trod_cell_int Try.underlying3 g3
  obtain ⟨c4, _, _, k4, g4⟩ := hty 4 _ rfl
  obtain ⟨x4, rfl⟩ := trod_cell_int Try.underlying3 g4
  obtain ⟨c5, _, _, k5, g5⟩ := hty 5 _ rfl
  obtain ⟨x5, rfl⟩ := trod_cell_int Try.underlying3 g5
  obtain ⟨c6, _, _, k6, g6⟩ := hty 6 _ rfl
  obtain ⟨x6, rfl⟩ := trod_cell_int Try.underlying3 g6
  obtain ⟨c7, _, _, k7, g7⟩ := hty 7 _ rfl
  obtain ⟨x7, rfl⟩ := trod_cell_int Try.underlying3 g7
  obtain ⟨c8, _, _, k8, g8⟩ := hty 8 _ rfl
  obtain ⟨x8, rfl⟩ := trod_cell_str Try.underlying9 g8
  obtain ⟨c9, _, _, k9, g9⟩ := hty 9 _ rfl
  obtain ⟨A, c, z, rfl, hz, _, hc, _⟩ := trod_row (en := encK) (k := 6) (Q := fun _ => True) Try.underlying23 (by rw [ackC, ackS]) encK_len (by decide) (fun _ _ _ h => trod_ack h) g9
  refine ⟨⟨x0, x1, x2, x3, x4, x5, x6, x7, x8, A, c, z⟩, list_ext_N 10 hl rfl fun j hj => ?_, ⟨hz, hc⟩⟩
  rcases (show j = 0 ∨ j = 1 ∨ j = 2 ∨ j = 3 ∨ j = 4 ∨ j = 5 ∨ j = 6 ∨ j = 7 ∨ j = 8 ∨ j = 9 by omega) with rfl | rfl | rfl | rfl | rfl | rfl | rfl | rfl | rfl | rfl
  · exact k0
  · exact k1
  · exact k2
  · exact k3
  · exact k4
  · exact k5
  · exact k6
  · exact k7
  · exact k8
  · exact k9
theorem open_ent {r : Reach} {b0 : Nat} {v : Value} {d : DataW H} {p : List MemPlace} (hv : Value.okWide Try.prog w r b0 25 v) (h : DataW.Trod enc Try.prog w 0 (fun _ => true) true 25 v d p) : ∃ a : EN, v = .agg (encE a).toArray ∧ RdE0 w a := by
  obtain ⟨cs, rfl, _⟩ := okWide_struct entU hv
  obtain ⟨fuel, hf⟩ := h
  obtain ⟨a, e, ha⟩ := trod_ent hf
  have e' : cs.toList = encE a := e
  exact ⟨a, by rw [← e'], ha⟩
theorem open_ents {r : Reach} {b0 : Nat} {v : Value} {d : DataW H} {p : List MemPlace} (hv : Value.okWide Try.prog w r b0 22 v) (h : DataW.Trod enc Try.prog w 0 (fun _ => true) true 22 v d p) : ∃ (A : Option Addr) (c : Nat) (z : Array EN), v = .slice A z.size c ∧ RdT0 w A z ∧ (A = none → c = 0) := by
  obtain ⟨a0, len, cap, rfl⟩ := okWide_slice Try.underlying22 hv
  obtain ⟨fuel, hf⟩ := h
  obtain ⟨A, c, z, e, hz, hq, _, hn⟩ := trod_row (en := encE) (k := 10) (Q := RdE0 w) Try.underlying22 (by rw [entC, entS]) encE_len (by decide) (fun _ _ _ h => trod_ent h) hf
  exact ⟨A, c, z, e, ⟨hz, hq⟩, hn⟩
end
end Go.Proofs.Ytgpejfkmdenonaa
