/- Arguments that are records and events, opened. -/
import Derived.Test.YtlpplnmmcgdooaaDoorOpenM
import Derived.Test.YtlpplnmmcgdooaaDoorRecA
namespace Go.Proofs.YtlpplnmmcgdooaaDoor
open Go.ChangeShapes Go.WideShapes Go.ChangeAt Go.RowKit Go.Deep Go.Joins

theorem evUnder : Tryd.prog.underlying 40 = some (.struct (Tryd.prog.fieldsOf 40)) := by kernel_rfl
theorem evTypes : (Tryd.prog.fieldsOf 40).map (fun f => (f.type, f.offset)) = #[(3, 0), (9, 1)] := by kernel_rfl
theorem evCells : Tryd.prog.cellsOf 40 = 2 := by kernel_rfl
theorem strCells : Tryd.prog.cellsOf 9 = 1 := by kernel_rfl
theorem boolCells : Tryd.prog.cellsOf 4 = 1 := by kernel_rfl
theorem recUnder : Tryd.prog.underlying 42 = some (.struct (Tryd.prog.fieldsOf 42)) := by kernel_rfl
theorem recTypes : (Tryd.prog.fieldsOf 42).map (fun f => (f.type, f.offset)) = #[(3, 0), (3, 1), (4, 2), (40, 3), (9, 5)] := by kernel_rfl
theorem recCells : Tryd.prog.cellsOf 42 = 6 := by kernel_rfl
section
variable {H : Type} {enc : TypeId × Value → H} {w : World}
/-- A struct's cells, field by field. -/
theorem parts_of {t : TypeId} {n : Nat} {cs : List Value} {y : DataW H × List MemPlace} {base : Nat} {sp : Nat → Bool} {held : Bool} {tys : Array (TypeId × Nat)} (hs : Tryd.prog.underlying t = some (.struct (Tryd.prog.fieldsOf t))) (hty : (Tryd.prog.fieldsOf t).map (fun f => (f.type, f.offset)) = tys)
    (h : DataW.trod enc Tryd.prog w base sp held n t cs = some y) : cs.length = Tryd.prog.cellsOf t ∧ ∀ (j : Nat) u o, tys[j]? = some (u, o) → ∃ y n, DataW.trod enc Tryd.prog w base sp held n u ((cs.drop o).take (Tryd.prog.cellsOf u)) = some y := by
  obtain ⟨xs, n', _, _, hl, hlen, hg⟩ := DataW.trod_struct hs h
  refine ⟨hl, fun j u o hj => ?_⟩
  rw [← hty, Array.getElem?_map] at hj
  obtain ⟨f, hf1, hf2⟩ := Option.map_eq_some_iff.1 hj
  injection hf2 with e1 e2
  subst e1 e2
  have h1 := hg j f hf1
  have hjl : j < (Tryd.prog.fieldsOf t).size := (Array.getElem?_eq_some_iff.1 hf1).1
  exact ⟨xs[j]'(by omega), n', h1.trans (List.getElem?_eq_getElem (by omega))⟩
theorem cell_bool {t : TypeId} {v : Value} {n : Nat} {y : DataW H × List MemPlace} {base : Nat} {sp : Nat → Bool} {held : Bool} (ht : Tryd.prog.underlying t = some .bool) (h : DataW.trod enc Tryd.prog w base sp held n t [v] = some y) : ∃ x : Bool, v = .bool x := by
  obtain ⟨a, e0, _, _⟩ := DataW.trod_bool ht h
  exact ⟨a, by simpa using e0⟩
set_option maxRecDepth 100000 in
theorem ev_of {n : Nat} {cs : List Value} {y : DataW H × List MemPlace} {base : Nat} {sp : Nat → Bool} {held : Bool} (h : DataW.trod enc Tryd.prog w base sp held n 40 cs = some y) : ∃ k d, cs = [.int .i64 k, .string d] := by
  obtain ⟨hl, hp⟩ := parts_of evUnder evTypes h
  rw [evCells] at hl
  obtain ⟨c0, c1, rfl⟩ : ∃ c0 c1, cs = [c0, c1] := by
    match cs, hl with
    | [a, b], _ => exact ⟨a, b, rfl⟩
  obtain ⟨_, _, g0⟩ := hp 0 _ _ rfl
  obtain ⟨_, _, g1⟩ := hp 1 _ _ rfl
  rw [intCells] at g0
  rw [strCells] at g1
  obtain ⟨k, rfl⟩ := cell_int Tryd.underlying3 g0
  obtain ⟨d, rfl⟩ := cell_str Tryd.underlying9 g1
  exact ⟨k, d, rfl⟩
set_option maxRecDepth 100000 in
theorem open_event {base : Nat} {sp : Nat → Bool} {held : Bool} {r : Reach} {b0 : Nat} {v : Value} {d : DataW H} {p : List MemPlace} (hv : Value.okWide Tryd.prog w r b0 40 v) (h : DataW.Trod enc Tryd.prog w base sp held 40 v d p) :
    ∃ (k : Int) (s : ByteArray), v = .agg #[.int .i64 k, .string s] := by
  obtain ⟨cs, rfl, hsz⟩ := okWide_struct evUnder hv
  obtain ⟨fuel, hf⟩ := h
  obtain ⟨k, s, e⟩ := ev_of hf
  have e' : cs.toList = [.int .i64 k, .string s] := e
  exact ⟨k, s, by rw [← Array.toArray_toList (xs := cs), e']⟩
set_option maxRecDepth 100000 in
theorem open_rec {base : Nat} {sp : Nat → Bool} {held : Bool} {r : Reach} {b0 : Nat} {v : Value} {d : DataW H} {p : List MemPlace} (hv : Value.okWide Tryd.prog w r b0 42 v) (h : DataW.Trod enc Tryd.prog w base sp held 42 v d p) :
    ∃ m : PR, v = recV m := by
  obtain ⟨cs, rfl, hsz⟩ := okWide_struct recUnder hv
  obtain ⟨fuel, hf⟩ := h
  obtain ⟨hl, hp⟩ := parts_of recUnder recTypes hf
  rw [recCells] at hl
  generalize hcl : (Value.agg cs).cells.toList = l at hl hp
  have hcl' : cs.toList = l := hcl
  obtain ⟨c0, c1, c2, c3, c4, c5, rfl⟩ : ∃ c0 c1 c2 c3 c4 c5, l = [c0, c1, c2, c3, c4, c5] := by
    match l, hl with
    | [a, b, c, d, e, f], _ => exact ⟨a, b, c, d, e, f, rfl⟩
  obtain ⟨_, _, g0⟩ := hp 0 _ _ rfl
  obtain ⟨_, _, g1⟩ := hp 1 _ _ rfl
  obtain ⟨_, _, g2⟩ := hp 2 _ _ rfl
  obtain ⟨_, _, g3⟩ := hp 3 _ _ rfl
  obtain ⟨_, _, g4⟩ := hp 4 _ _ rfl
  rw [intCells] at g0 g1
  rw [boolCells] at g2
  rw [evCells] at g3
  rw [strCells] at g4
  obtain ⟨x0, rfl⟩ := cell_int Tryd.underlying3 g0
  obtain ⟨x1, rfl⟩ := cell_int Tryd.underlying3 g1
  obtain ⟨x2, rfl⟩ := cell_bool Tryd.underlying4 g2
  obtain ⟨x3, x4, e3⟩ := ev_of g3
  obtain ⟨x5, rfl⟩ := cell_str Tryd.underlying9 g4
  simp at e3
  obtain ⟨rfl, rfl⟩ := e3
  exact ⟨⟨x0, x1, x2, x3, x4, x5⟩, by unfold recV; rw [← Array.toArray_toList (xs := cs), hcl']⟩
end
end Go.Proofs.YtlpplnmmcgdooaaDoor
