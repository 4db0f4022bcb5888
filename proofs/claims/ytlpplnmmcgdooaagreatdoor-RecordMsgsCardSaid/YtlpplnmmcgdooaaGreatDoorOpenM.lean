/- An argument that is a message, opened. Arguments that are records and events, opened. -/
import Derived.Test.YtlpplnmmcgdooaaGreatDoorLaw
import Derived.Test.YtlpplnmmcgdooaaGreatDoorMsgS
import Derived.Deep.Fields
import Derived.Deep.Slices
import Derived.Lib.SmallJoins
import Derived.Test.YtlpplnmmcgdooaaGreatDoorRecA
namespace Go.Proofs.YtlpplnmmcgdooaaGreatDoor
open Go.ChangeShapes Go.WideShapes Go.ChangeAt Go.RowKit Go.Deep Go.Joins
section
variable {H : Type} {enc : TypeId × Value → H} {P : Program} {w : World}
theorem block_of_cell {a : Addr} {v : Value} (h : w.cell? a = some v) : a.block < w.heap.size := by
  rcases Nat.lt_or_ge a.block w.heap.size with hl | hl
  · exact hl
  · unfold World.cell? at h
    rw [Array.getElem?_eq_none hl] at h
    cases h
/-- A struct of one-cell fields: its cells, each read by itself. -/
theorem open_fields {base : Nat} {spare : Nat → Bool} {held : Bool} {r : Reach} {b0 : Nat} {t : TypeId} {fs : Array Field} {v : Value} {d : DataW H} {p : List MemPlace} (hs : P.underlying t = some (.struct fs)) (hone : oneCellFields P fs = true) (hC : P.cellsOf t = fs.size)
    (hv : Value.okWide P w r b0 t v) (h : DataW.Trod enc P w base spare held t v d p) :
    ∃ cs : Array Value, v = .agg cs ∧ cs.size = fs.size ∧ ∀ (j : Nat) (u : TypeId), (fs[j]?).map (·.type) = some u → ∃ c y n, cs[j]? = some c ∧ DataW.trod enc P w base spare held n u [c] = some y := by
  obtain ⟨cs, rfl, hsz⟩ := okWide_struct hs hv
  obtain ⟨fuel, hf⟩ := h
  obtain ⟨xs, n, _, _, _, hlen, hg⟩ := DataW.trod_struct hs hf
  refine ⟨cs, rfl, hsz.trans hC, fun j u hj => ?_⟩
  obtain ⟨f, hf1, hf2⟩ := Option.map_eq_some_iff.1 hj
  obtain ⟨o, k⟩ := hone_of hone j f hf1
  have hjl : j < fs.size := (Array.getElem?_eq_some_iff.1 hf1).1
  have hjc : j < cs.size := by rw [hsz, hC]; exact hjl
  have h1 := hg j f hf1
  rw [o, k] at h1
  have hone' : ((Value.agg cs).cells.toList.drop j).take 1 = [cs[j]] := by
    show (cs.toList.drop j).take 1 = [cs[j]]
    rw [List.drop_eq_getElem_cons (by simpa using hjc)]
    simp
  rw [hone', hf2] at h1
  have hys : xs[j]? = some (xs[j]'(by omega)) := List.getElem?_eq_getElem (by omega)
  exact ⟨cs[j], xs[j]'(by omega), n, Array.getElem?_eq_getElem hjc, h1.trans hys⟩
theorem pair_cells {base : Nat} {sp : Nat → Bool} {held : Bool} {e : TypeId} {f0 f1 : Field} {n : Nat} {cs : List Value} {x : DataW H × List MemPlace} (he : P.underlying e = some (.struct #[f0, f1])) (hone : oneCellFields P #[f0, f1] = true) (hC : P.cellsOf e = 2) (h0 : P.underlying f0.type = some (.int .i64)) (h1 : P.underlying f1.type = some (.int .i64))
    (h : DataW.trod enc P w base sp held n e cs = some x) : ∃ y : Int × Int, cs = [.int .i64 y.1, .int .i64 y.2] := by
  obtain ⟨y0, y1, n', _, hl, g0, g1⟩ := trod_struct2 he h
  obtain ⟨o0, k0⟩ := hone_of hone 0 f0 rfl
  obtain ⟨o1, k1⟩ := hone_of hone 1 f1 rfl
  obtain ⟨c0, c1, rfl⟩ : ∃ c0 c1, cs = [c0, c1] := by
    match cs, hl.trans hC with
    | [a, b], _ => exact ⟨a, b, rfl⟩
  simp [o0, k0] at g0
  simp [o1, k1] at g1
  obtain ⟨a, e0, _, _⟩ := DataW.trod_int h0 g0
  obtain ⟨b, e1, _, _⟩ := DataW.trod_int h1 g1
  simp at e0 e1
  exact ⟨(a, b), by rw [e0, e1]⟩
theorem cell_rdA {t e : TypeId} {f0 f1 : Field} {v : Value} {n : Nat} {y : DataW H × List MemPlace} (ht : P.underlying t = some (.slice e)) (he : P.underlying e = some (.struct #[f0, f1])) (hone : oneCellFields P #[f0, f1] = true) (hC : P.cellsOf e = 2) (h0 : P.underlying f0.type = some (.int .i64)) (h1 : P.underlying f1.type = some (.int .i64))
    (h : DataW.trod enc P w 0 (fun _ => true) true n t [v] = some y) :
    ∃ (A : Option Addr) (c : Nat) (z : Array (Int × Int)), v = .slice A z.size c ∧ RdK encA 2 w.heap.size w A z := by
  rcases open_slice ht h with ⟨hcs, _⟩ | ⟨a, len, cap', m, n, D, Pl, hcs, _, hl, hm, hmm, _, hi⟩
  · simp at hcs
    subst hcs
    exact ⟨none, 0, #[], rfl, fun h => absurd h (by decide)⟩
  · simp at hcs
    subst hcs
    simp at hmm
    subst hmm
    have hx : ∀ i, i < len → ∃ y : Int × Int, w.cell? (a.add (i * 2)) = some (.int .i64 y.1) ∧ w.cell? (a.add (i * 2 + 1)) = some (.int .i64 y.2) := by
      intro i hil
      obtain ⟨cs', hc, ht'⟩ := hi i (by omega)
      rw [hC] at hc
      obtain ⟨y, rfl⟩ := pair_cells he hone hC h0 h1 ht'
      obtain ⟨_, _, hat⟩ := World.cells?_some hc
      have a0 := hat 0 (by decide)
      have a1 := hat 1 (by decide)
      rw [add_add] at a0 a1
      exact ⟨y, a0, a1⟩
    obtain ⟨f, hf'⟩ := choose_lt hx
    have hsz : ((List.range len).map f).toArray.size = len := by simp
    refine ⟨some a, _, ((List.range len).map f).toArray, by rw [hsz], fun hp => ?_⟩
    rw [hsz] at hp
    obtain ⟨b, off, spot⟩ := a
    have hspot : spot = none := by simpa [Addr.add] using World.cell?_spot (hf' 0 hp).1
    subst hspot
    have hb : b < w.heap.size := by
      have := block_of_cell (hf' 0 hp).1
      simpa [Addr.add] using this
    refine ⟨b, off, rfl, hb, fun t ht => ?_⟩
    rw [hsz] at ht
    have hq : t / 2 < len := by omega
    have e1 : ((List.range len).map f).toArray[t / 2]! = f (t / 2) := by simp [hq]
    rw [Go.Sort.get_flatK _ _ _ _ (by rw [hsz]; exact ht), e1]
    have g := hf' (t / 2) hq
    rw [Addr.add_lit, Addr.add_lit] at g
    rcases Nat.mod_two_eq_zero_or_one t with h2 | h2
    · rw [h2, show off + t = off + t / 2 * 2 by omega]; exact g.1
    · rw [h2, show off + t = off + (t / 2 * 2 + 1) by omega]; exact g.2
theorem cell_rdI {t e : TypeId} {v : Value} {n : Nat} {y : DataW H × List MemPlace} (ht : P.underlying t = some (.slice e)) (he : P.underlying e = some (.int .i64)) (hC : P.cellsOf e = 1)
    (h : DataW.trod enc P w 0 (fun _ => true) true n t [v] = some y) :
    ∃ (A : Option Addr) (c : Nat) (z : Array Int), v = .slice A z.size c ∧ RdI w.heap.size w A z := by
  rcases open_ints ht he hC h with ⟨hcs, _⟩ | ⟨a, len, cap, zs, hcs, _, hl, hm, hz, _, hcell, hwz⟩
  · simp at hcs
    subst hcs
    exact ⟨none, 0, #[], rfl, RdI.none_⟩
  · simp at hcs
    subst hcs
    simp at hz
    have hsz : (zs.take len).toArray.size = len := by simp; omega
    refine ⟨some a, cap, (zs.take len).toArray, by rw [hsz], fun h0 => ?_⟩
    rw [hsz] at h0
    obtain ⟨b, off, rfl, hc⟩ := ints_at hcell (by omega)
    refine ⟨b, off, rfl, block_of_cell (hc 0 (by omega)), fun i hi => ?_⟩
    rw [hsz] at hi
    rw [hc i (by omega), getElem!_pos _ i (by rw [hsz]; exact hi)]
    simp [List.getD, show i < zs.length by omega]
theorem cell_int {t : TypeId} {v : Value} {n : Nat} {y : DataW H × List MemPlace} {base : Nat} {sp : Nat → Bool} {held : Bool} (ht : P.underlying t = some (.int .i64)) (h : DataW.trod enc P w base sp held n t [v] = some y) : ∃ x : Int, v = .int .i64 x := by
  obtain ⟨a, e0, _, _⟩ := DataW.trod_int ht h
  exact ⟨a, by simpa using e0⟩
theorem cell_str {t : TypeId} {v : Value} {n : Nat} {y : DataW H × List MemPlace} {base : Nat} {sp : Nat → Bool} {held : Bool} (ht : P.underlying t = some .string) (h : DataW.trod enc P w base sp held n t [v] = some y) : ∃ s : ByteArray, v = .string s := by
  obtain ⟨a, e0, _, _⟩ := DataW.trod_string ht h
  exact ⟨a, by simpa using e0⟩
end
theorem attFields : ∃ f0 f1 : Field, Tryz.prog.underlying 80 = some (.struct #[f0, f1]) ∧ oneCellFields Tryz.prog #[f0, f1] = true ∧ f0.type = 3 ∧ f1.type = 3 := ⟨_, _, Tryz.underlying80, by kernel_rfl, rfl, rfl⟩
theorem msgUnder : Tryz.prog.underlying 25 = some (.struct (Tryz.prog.fieldsOf 25)) := by kernel_rfl
theorem msgTypes : (Tryz.prog.fieldsOf 25).map (·.type) = #[3, 3, 3, 3, 3, 3, 3, 3, 9, 3, 3, 22, 23, 3] := by kernel_rfl
theorem msgOne : oneCellFields Tryz.prog (Tryz.prog.fieldsOf 25) = true := by kernel_rfl
theorem msgCells : Tryz.prog.cellsOf 25 = (Tryz.prog.fieldsOf 25).size := by kernel_rfl
theorem msgSize : (Tryz.prog.fieldsOf 25).size = 14 := by kernel_rfl
theorem attCells : Tryz.prog.cellsOf 80 = 2 := by kernel_rfl
theorem intCells : Tryz.prog.cellsOf 3 = 1 := by kernel_rfl
set_option maxRecDepth 100000 in
theorem open_msg {H : Type} {enc : TypeId × Value → H} {w : World} {r : Reach} {b0 : Nat} {v : Value} {d : DataW H} {p : List MemPlace} (hv : Value.okWide Tryz.prog w r b0 25 v) (h : DataW.Trod enc Tryz.prog w 0 (fun _ => true) true 25 v d p) :
    ∃ m : PM, v = msgV m ∧ RdK encA 2 w.heap.size w m.aA m.ats ∧ RdI w.heap.size w m.mA m.mks := by
  obtain ⟨cs, rfl, hcs, hf⟩ := open_fields msgUnder msgOne msgCells hv h
  rw [msgSize] at hcs
  have hty : ∀ j u, (#[3, 3, 3, 3, 3, 3, 3, 3, 9, 3, 3, 22, 23, 3] : Array TypeId)[j]? = some u → ∃ c y n, cs[j]? = some c ∧ DataW.trod enc Tryz.prog w 0 (fun _ => true) true n u [c] = some y := fun j u hj => hf j u (by rw [← msgTypes, Array.getElem?_map] at hj; exact hj)
  clear hf
  obtain ⟨f0, f1, hA, hone, t0, t1⟩ := attFields
  have hi := Tryz.underlying3
  obtain ⟨c0, _, _, k0, g0⟩ := hty 0 _ rfl
  obtain ⟨c1, _, _, k1, g1⟩ := hty 1 _ rfl
  obtain ⟨c2, _, _, k2, g2⟩ := hty 2 _ rfl
  obtain ⟨c3, _, _, k3, g3⟩ := hty 3 _ rfl
  obtain ⟨c4, _, _, k4, g4⟩ := hty 4 _ rfl
  obtain ⟨c5, _, _, k5, g5⟩ := hty 5 _ rfl
  obtain ⟨c6, _, _, k6, g6⟩ := hty 6 _ rfl
  obtain ⟨c7, _, _, k7, g7⟩ := hty 7 _ rfl
  obtain ⟨c8, _, _, k8, g8⟩ := hty 8 _ rfl
  obtain ⟨c9, _, _, k9, g9⟩ := hty 9 _ rfl
  obtain ⟨c10, _, _, k10, g10⟩ := hty 10 _ rfl
  obtain ⟨c11, _, _, k11, g11⟩ := hty 11 _ rfl
  obtain ⟨c12, _, _, k12, g12⟩ := hty 12 _ rfl
  obtain ⟨c13, _, _, k13, g13⟩ := hty 13 _ rfl
  obtain ⟨x0, rfl⟩ := cell_int hi g0
  obtain ⟨x1, rfl⟩ := cell_int hi g1
  obtain ⟨x2, rfl⟩ := cell_int hi g2
  obtain ⟨x3, rfl⟩ := cell_int hi g3
  obtain ⟨x4, rfl⟩ := cell_int hi g4
  obtain ⟨x5, rfl⟩ := cell_int hi g5
  obtain ⟨x6, rfl⟩ := cell_int hi g6
  obtain ⟨x7, rfl⟩ := cell_int hi g7
  obtain ⟨x8, rfl⟩ := cell_str Tryz.underlying9 g8
  obtain ⟨x9, rfl⟩ := cell_int hi g9
  obtain ⟨x10, rfl⟩ := cell_int hi g10
  obtain ⟨aA, aC, ats, rfl, ra⟩ := cell_rdA Tryz.underlying22 hA hone attCells (by rw [t0]; exact hi) (by rw [t1]; exact hi) g11
  obtain ⟨mA, mC, mks, rfl, rm⟩ := cell_rdI Tryz.underlying23 hi intCells g12
  obtain ⟨x13, rfl⟩ := cell_int hi g13
  refine ⟨⟨x0, x1, x2, x3, x4, x5, x6, x7, x8, x9, x10, aA, aC, ats, mA, mC, mks, x13⟩, ?_, ra, rm⟩
  unfold msgV
  congr 1
  apply Array.ext_getElem?
  intro j
  match j with
  | 0 => exact k0
  | 1 => exact k1
  | 2 => exact k2
  | 3 => exact k3
  | 4 => exact k4
  | 5 => exact k5
  | 6 => exact k6
  | 7 => exact k7
  | 8 => exact k8
  | 9 => exact k9
  | 10 => exact k10
  | 11 => exact k11
  | 12 => exact k12
  | 13 => exact k13
  | j + 14 => rw [Array.getElem?_eq_none (by omega), Array.getElem?_eq_none (by simp)]
end Go.Proofs.YtlpplnmmcgdooaaGreatDoor
namespace Go.Proofs.YtlpplnmmcgdooaaGreatDoor
open Go.ChangeShapes Go.WideShapes Go.ChangeAt Go.RowKit Go.Deep Go.Joins

theorem evUnder : Tryz.prog.underlying 47 = some (.struct (Tryz.prog.fieldsOf 47)) := by kernel_rfl
theorem evTypes : (Tryz.prog.fieldsOf 47).map (fun f => (f.type, f.offset)) = #[(3, 0), (9, 1)] := by kernel_rfl
theorem evCells : Tryz.prog.cellsOf 47 = 2 := by kernel_rfl
theorem strCells : Tryz.prog.cellsOf 9 = 1 := by kernel_rfl
theorem boolCells : Tryz.prog.cellsOf 4 = 1 := by kernel_rfl
theorem recUnder : Tryz.prog.underlying 49 = some (.struct (Tryz.prog.fieldsOf 49)) := by kernel_rfl
theorem recTypes : (Tryz.prog.fieldsOf 49).map (fun f => (f.type, f.offset)) = #[(3, 0), (3, 1), (4, 2), (47, 3), (9, 5)] := by kernel_rfl
theorem recCells : Tryz.prog.cellsOf 49 = 6 := by kernel_rfl
section
variable {H : Type} {enc : TypeId × Value → H} {w : World}
/-- A struct's cells, field by field. -/
theorem parts_of {t : TypeId} {n : Nat} {cs : List Value} {y : DataW H × List MemPlace} {base : Nat} {sp : Nat → Bool} {held : Bool} {tys : Array (TypeId × Nat)} (hs : Tryz.prog.underlying t = some (.struct (Tryz.prog.fieldsOf t))) (hty : (Tryz.prog.fieldsOf t).map (fun f => (f.type, f.offset)) = tys)
    (h : DataW.trod enc Tryz.prog w base sp held n t cs = some y) : cs.length = Tryz.prog.cellsOf t ∧ ∀ (j : Nat) u o, tys[j]? = some (u, o) → ∃ y n, DataW.trod enc Tryz.prog w base sp held n u ((cs.drop o).take (Tryz.prog.cellsOf u)) = some y := by
  obtain ⟨xs, n', _, _, hl, hlen, hg⟩ := DataW.trod_struct hs h
  refine ⟨hl, fun j u o hj => ?_⟩
  rw [← hty, Array.getElem?_map] at hj
  obtain ⟨f, hf1, hf2⟩ := Option.map_eq_some_iff.1 hj
  injection hf2 with e1 e2
  subst e1 e2
  have h1 := hg j f hf1
  have hjl : j < (Tryz.prog.fieldsOf t).size := (Array.getElem?_eq_some_iff.1 hf1).1
  exact ⟨xs[j]'(by omega), n', h1.trans (List.getElem?_eq_getElem (by omega))⟩
theorem cell_bool {t : TypeId} {v : Value} {n : Nat} {y : DataW H × List MemPlace} {base : Nat} {sp : Nat → Bool} {held : Bool} (ht : Tryz.prog.underlying t = some .bool) (h : DataW.trod enc Tryz.prog w base sp held n t [v] = some y) : ∃ x : Bool, v = .bool x := by
  obtain ⟨a, e0, _, _⟩ := DataW.trod_bool ht h
  exact ⟨a, by simpa using e0⟩
set_option maxRecDepth 100000 in
theorem ev_of {n : Nat} {cs : List Value} {y : DataW H × List MemPlace} {base : Nat} {sp : Nat → Bool} {held : Bool} (h : DataW.trod enc Tryz.prog w base sp held n 47 cs = some y) : ∃ k d, cs = [.int .i64 k, .string d] := by
  obtain ⟨hl, hp⟩ := parts_of evUnder evTypes h
  rw [evCells] at hl
  obtain ⟨c0, c1, rfl⟩ : ∃ c0 c1, cs = [c0, c1] := by
    match cs, hl with
    | [a, b], _ => exact ⟨a, b, rfl⟩
  obtain ⟨_, _, g0⟩ := hp 0 _ _ rfl
  obtain ⟨_, _, g1⟩ := hp 1 _ _ rfl
  rw [intCells] at g0
  rw [strCells] at g1
  obtain ⟨k, rfl⟩ := cell_int Tryz.underlying3 g0
  obtain ⟨d, rfl⟩ := cell_str Tryz.underlying9 g1
  exact ⟨k, d, rfl⟩
set_option maxRecDepth 100000 in
theorem open_event {base : Nat} {sp : Nat → Bool} {held : Bool} {r : Reach} {b0 : Nat} {v : Value} {d : DataW H} {p : List MemPlace} (hv : Value.okWide Tryz.prog w r b0 47 v) (h : DataW.Trod enc Tryz.prog w base sp held 47 v d p) :
    ∃ (k : Int) (s : ByteArray), v = .agg #[.int .i64 k, .string s] := by
  obtain ⟨cs, rfl, hsz⟩ := okWide_struct evUnder hv
  obtain ⟨fuel, hf⟩ := h
  obtain ⟨k, s, e⟩ := ev_of hf
  have e' : cs.toList = [.int .i64 k, .string s] := e
  exact ⟨k, s, by rw [← Array.toArray_toList (xs := cs), e']⟩
set_option maxRecDepth 100000 in
theorem open_rec {base : Nat} {sp : Nat → Bool} {held : Bool} {r : Reach} {b0 : Nat} {v : Value} {d : DataW H} {p : List MemPlace} (hv : Value.okWide Tryz.prog w r b0 49 v) (h : DataW.Trod enc Tryz.prog w base sp held 49 v d p) :
    ∃ m : PR, v = recV m := by
  obtain ⟨cs, rfl, hsz⟩ := okWide_struct recUnder hv
  obtain ⟨fuel, hf⟩ := h
  obtain ⟨hl, hp⟩ := parts_of recUnder recTypes hf
  rw [recCells] at hl
  generalize hcl : (Value.agg cs).cells.toList = l at hl hp
  have hcl' : cs.toList = l := hcl
  obtain ⟨c0, c1, c2, c3, c4, c5, rfl⟩ : ∃ c0 c1 c2 c3 c4 c5, l = [c0, c1, c2, c3, c4, c5] := by
    match l, hl with
    | [a, b, c, d, e, f], _ => exact ⟨a, b, c, d, e, f, rfl⟩
  obtain ⟨_, _, g0⟩ := hp 0 _ _ rfl
  obtain ⟨_, _, g1⟩ := hp 1 _ _ rfl
  obtain ⟨_, _, g2⟩ := hp 2 _ _ rfl
  obtain ⟨_, _, g3⟩ := hp 3 _ _ rfl
  obtain ⟨_, _, g4⟩ := hp 4 _ _ rfl
  rw [intCells] at g0 g1
  rw [boolCells] at g2
  rw [evCells] at g3
  rw [strCells] at g4
  obtain ⟨x0, rfl⟩ := cell_int Tryz.underlying3 g0
  obtain ⟨x1, rfl⟩ := cell_int Tryz.underlying3 g1
  obtain ⟨x2, rfl⟩ := cell_bool Tryz.underlying4 g2
  obtain ⟨x3, x4, e3⟩ := ev_of g3
  obtain ⟨x5, rfl⟩ := cell_str Tryz.underlying9 g4
  simp at e3
  obtain ⟨rfl, rfl⟩ := e3
  exact ⟨⟨x0, x1, x2, x3, x4, x5⟩, by unfold recV; rw [← Array.toArray_toList (xs := cs), hcl']⟩
end
end Go.Proofs.YtlpplnmmcgdooaaGreatDoor
