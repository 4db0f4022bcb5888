/- The document's Take: plain facts, and the loops that read numbers. -/
import Derived.Test.YtlpplnmmcgdooaaGreatDoorMsgT
import Derived.Test.YtlpplnmmcgdooaaGreatDoorDocS
namespace Go.Proofs.YtlpplnmmcgdooaaGreatDoor
open Go.RowKit Go.Sort Nb

theorem numR_pos {s : List UInt8} {most : Nat} {r : RS} (h : r.pos ≤ s.length) : (numR s most r).1.pos ≤ s.length := by
  unfold numR
  split
  · exact h
  · split
    · exact h
    · rename_i n k hg
      split
      · exact h
      · have := (getL_ok hg).2.2.1
        rw [List.length_drop] at this
        show r.pos + k ≤ _
        omega
theorem textR_pos {s : List UInt8} {most : Nat} {r : RS} (h : r.pos ≤ s.length) : (textR s most r).1.pos ≤ s.length := by
  unfold textR
  split
  · exact h
  · split
    · exact h
    · rename_i n k hg
      split
      · exact h
      · split
        · exact h
        · have := (getL_ok hg).2.2.1
          rw [List.length_drop] at this
          show r.pos + k + n ≤ _
          omega
theorem rowR_pos {s : List UInt8} {most : Nat} {r : RS} (h : r.pos ≤ s.length) : (rowR s most r).1.pos ≤ s.length := by
  unfold rowR
  split
  · exact h
  · split
    · exact h
    · rename_i l k hg
      have := (unrow_ok hg).1
      rw [List.length_drop] at this
      show r.pos + k ≤ _
      omega
theorem numsR_pos {s : List UInt8} {most : Nat} : ∀ (k : Nat) {r : RS}, r.pos ≤ s.length → (numsR s most k r).1.pos ≤ s.length
  | 0, _, h => h
  | k + 1, r, h => by rw [numsR]; exact numsR_pos k (numR_pos h)
/-- The eleven cells. -/
def nC (l : List Nat) : Array Value := ((l ++ List.replicate (11 - l.length) 0).map fun n => Value.int .i64 ((n : Nat) : Int)).toArray
theorem nC_at {l : List Nat} {j : Nat} (h : l.length ≤ 11) (hj : j < 11) : (nC l)[j]? = some (.int .i64 ((l.getD j 0 : Nat) : Int)) := by
  unfold nC
  rw [List.getElem?_toArray, List.getElem?_map]
  rcases Nat.lt_or_ge j l.length with h1 | h1
  · rw [List.getElem?_append_left h1, List.getElem?_eq_getElem h1]
    simp [h1]
  · rw [List.getElem?_append_right h1, List.getElem?_replicate, if_pos (by omega)]
    simp [List.getElem?_eq_none h1]
theorem nC_set {l : List Nat} {n : Nat} (h : l.length < 11) : (nC l).setIfInBounds l.length (.int .i64 (n : Int)) = nC (l ++ [n]) := by
  have hs : (nC l).size = 11 := by unfold nC; simp; omega
  have hs2 : (nC (l ++ [n])).size = 11 := by unfold nC; simp; omega
  apply Array.ext_getElem?
  intro j
  rcases Nat.lt_or_ge j 11 with hj | hj
  · rw [nC_at (by simp; omega) hj]
    by_cases e : l.length = j
    · subst e
      rw [Array.getElem?_setIfInBounds_self_of_lt (by omega)]
      simp
    · rw [Array.getElem?_setIfInBounds_ne e, nC_at (by omega) hj]
      congr 3
      rcases Nat.lt_or_ge j l.length with h1 | h1
      · simp [List.getElem?_append_left h1]
      · have h2 : l.length + 1 ≤ j := by omega
        rw [List.getD_eq_getElem?_getD, List.getD_eq_getElem?_getD, List.getElem?_eq_none h1, List.getElem?_eq_none (by simp; omega)]
  · rw [Array.getElem?_eq_none (by simp; omega), Array.getElem?_eq_none (by omega)]
theorem heap4 {w : World} {g : Nat} {y0 y1 y2 y3 : Value} {T : TypeId} (h : w.heap[g]? = some (.cells #[y0, y1, y2, y3] T (0, 0))) (z0 z1 z2 z3 : Value) :
    ((((w.setCell ⟨g, 0, none⟩ z0).setCell ⟨g, 1, none⟩ z1).setCell ⟨g, 2, none⟩ z2).setCell ⟨g, 3, none⟩ z3).heap[g]? = some (.cells #[z0, z1, z2, z3] T (0, 0)) := by
  have h0 : (w.setCell ⟨g, 0, none⟩ z0).heap[g]? = some (.cells #[z0, y1, y2, y3] T (0, 0)) := heap_set h 0 z0
  have h1 : ((w.setCell ⟨g, 0, none⟩ z0).setCell ⟨g, 1, none⟩ z1).heap[g]? = some (.cells #[z0, z1, y2, y3] T (0, 0)) := heap_set h0 1 z1
  have h2 : (((w.setCell ⟨g, 0, none⟩ z0).setCell ⟨g, 1, none⟩ z1).setCell ⟨g, 2, none⟩ z2).heap[g]? = some (.cells #[z0, z1, z2, y3] T (0, 0)) := heap_set h1 2 z2
  exact heap_set h2 3 z3
theorem far4 {w : World} {g i : Nat} (hi : i ≠ g) (z0 z1 z2 z3 : Value) : ((((w.setCell ⟨g, 0, none⟩ z0).setCell ⟨g, 1, none⟩ z1).setCell ⟨g, 2, none⟩ z2).setCell ⟨g, 3, none⟩ z3).heap[i]? = w.heap[i]? := by
  rw [Below.heap_setCell _ _ _ _ hi, Below.heap_setCell _ _ _ _ hi, Below.heap_setCell _ _ _ _ hi, Below.heap_setCell _ _ _ _ hi]
theorem same4 (a : World) (g : Nat) (z0 z1 z2 z3 : Value) : a.grownBy ((((a.setCell ⟨g, 0, none⟩ z0).setCell ⟨g, 1, none⟩ z1).setCell ⟨g, 2, none⟩ z2).setCell ⟨g, 3, none⟩ z3) (some g) :=
  grown_setCell (grown_setCell (grown_setCell (grown_setCell (World.grownBy.refl a (some g)) (p := ⟨g, 0, none⟩) rfl z0) (p := ⟨g, 1, none⟩) rfl z1) (p := ⟨g, 2, none⟩) rfl z2) (p := ⟨g, 3, none⟩) rfl z3
theorem bel4 {w a : World} {g : Nat} (h : Below w.heap.size w a) (hg : w.heap.size ≤ g) (z0 z1 z2 z3 : Value) : Below w.heap.size w ((((a.setCell ⟨g, 0, none⟩ z0).setCell ⟨g, 1, none⟩ z1).setCell ⟨g, 2, none⟩ z2).setCell ⟨g, 3, none⟩ z3) :=
  (((h.setCell (p := ⟨g, 0, none⟩) hg z0).setCell (p := ⟨g, 1, none⟩) hg z1).setCell (p := ⟨g, 2, none⟩) hg z2).setCell (p := ⟨g, 3, none⟩) hg z3
theorem cells4 {w : World} {g : Nat} {z0 z1 z2 z3 : Value} {T : TypeId} (h : w.heap[g]? = some (.cells #[z0, z1, z2, z3] T (0, 0))) :
    w.cell? ⟨g, 0, none⟩ = some z0 ∧ w.frozen? ⟨g, 0, none⟩ = false ∧ w.cell? ⟨g, 1, none⟩ = some z1 ∧ w.frozen? ⟨g, 1, none⟩ = false ∧ w.cell? ⟨g, 2, none⟩ = some z2 ∧ w.frozen? ⟨g, 2, none⟩ = false ∧ w.cell? ⟨g, 3, none⟩ = some z3 ∧ w.frozen? ⟨g, 3, none⟩ = false := by
  refine ⟨?_, ?_, ?_, ?_, ?_, ?_, ?_, ?_⟩
  all_goals first | exact Lib.frozen_of_heap h _ | (rw [heap_cell h]; rfl)
/-- Where the document's Take keeps what it has: its result, its reader, its numbers. -/
structure DT (w : World) (s : ByteArray) (r : RS) (pc : ByteArray) (l : List Nat) (wr : World) : Prop where
  res : wr.heap[w.heap.size]? = some (.cells (mCs 0 0 0 0 0 0 0 0 ⟨#[]⟩ 0 0 (.slice none 0 0) (.slice none 0 0) 0) 25 (0, 0))
  rd : wr.heap[w.heap.size + 1]? = some (.cells #[.string s, .int .i64 (r.pos : Int), .string pc, .int .i64 (r.e : Int)] 106 (0, 0))
  nm : wr.heap[w.heap.size + 2]? = some (.cells (nC l) 107 (0, 0))
  bl : Below w.heap.size w wr
theorem DT.next {w : World} {s : ByteArray} {r : RS} {pc : ByteArray} {l : List Nat} {wr w1 : World} (h : DT w s r pc l wr) (hb : Below wr.heap.size wr w1) : DT w s r pc l w1 :=
  ⟨(hb.block _ (lt_of_heap h.res)).trans h.res, (hb.block _ (lt_of_heap h.rd)).trans h.rd, (hb.block _ (lt_of_heap h.nm)).trans h.nm, belStep h.bl hb⟩
/-- The reader is stored anew. -/
theorem DT.store {w : World} {s : ByteArray} {r : RS} {pc : ByteArray} {l : List Nat} {wr : World} (h : DT w s r pc l wr) (r' : RS) (pc' : ByteArray) :
    DT w s r' pc' l ((((wr.setCell ⟨w.heap.size + 1, 0, none⟩ (.string s)).setCell ⟨w.heap.size + 1, 1, none⟩ (.int .i64 (r'.pos : Int))).setCell ⟨w.heap.size + 1, 2, none⟩ (.string pc')).setCell ⟨w.heap.size + 1, 3, none⟩ (.int .i64 (r'.e : Int))) :=
  ⟨(far4 (by omega) _ _ _ _).trans h.res, heap4 h.rd _ _ _ _, (far4 (by omega) _ _ _ _).trans h.nm, bel4 h.bl (by omega) _ _ _ _⟩
/-- A number is stored. -/
theorem DT.num {w : World} {s : ByteArray} {r : RS} {pc : ByteArray} {l : List Nat} {wr : World} (h : DT w s r pc l wr) (hl : l.length < 11) (n : Nat) : DT w s r pc (l ++ [n]) (wr.setCell ⟨w.heap.size + 2, l.length, none⟩ (.int .i64 (n : Int))) :=
  ⟨(Below.heap_setCell _ _ _ _ (by simp)).trans h.res, (Below.heap_setCell _ _ _ _ (by simp)).trans h.rd, by rw [heap_set h.nm, nC_set hl], h.bl.setCell (by simp) _⟩
end Go.Proofs.YtlpplnmmcgdooaaGreatDoor
