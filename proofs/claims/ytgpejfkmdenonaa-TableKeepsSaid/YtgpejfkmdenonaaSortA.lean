/- The sort of commands at times, by the bound method: the worlds that it passes through; two places exchanged; the heap. -/
import Derived.Test.YtgpejfkmdenonaaIdentC
import Derived.Sort.LotD3
namespace Go.Proofs.Ytgpejfkmdenonaa
open Go.RowKit Go.Sort Go.Lib

/-- w' is w but for the row at blk, which holds d, and for what was made. -/
structure Srt (w : World) (blk off : Nat) (d : Array (Int × Int)) (w' : World) : Prop where
  holds : HoldsK encA_I 2 w' blk off d
  lt : blk < w.heap.size
  size : w.heap.size ≤ w'.heap.size
  block : ∀ g, g < w.heap.size → g ≠ blk → w'.heap[g]? = w.heap[g]?
  os : w'.os = w.os
  tape : w'.tape = w.tape
  output : w'.output = w.output
section
variable {w w1 w2 : World} {blk off : Nat} {d d2 : Array (Int × Int)}
theorem Srt.refl (h : HoldsK encA_I 2 w blk off d) (hl : blk < w.heap.size) : Srt w blk off d w := ⟨h, hl, Nat.le_refl _, fun _ _ _ => rfl, rfl, rfl, rfl⟩
theorem Srt.lt1 (h : Srt w blk off d w1) : blk < w1.heap.size := Nat.lt_of_lt_of_le h.lt h.size
theorem Srt.below (h : Srt w blk off d w1) (hb : RowKit.Below w1.heap.size w1 w2) : Srt w blk off d w2 :=
  ⟨fun t ht => ⟨(hb.cell (p := ⟨blk, off + t, none⟩) h.lt1).trans (h.holds t ht).1, (hb.frozen (p := ⟨blk, off + t, none⟩) h.lt1).trans (h.holds t ht).2⟩, h.lt, Nat.le_trans h.size hb.size,
    fun g hg hne => (hb.block g (Nat.lt_of_lt_of_le hg h.size)).trans (h.block g hg hne), hb.os.trans h.os, hb.tape.trans h.tape, hb.output.trans h.output⟩
theorem Srt.trans (h : Srt w blk off d w1) (k : Srt w1 blk off d2 w2) : Srt w blk off d2 w2 :=
  ⟨k.holds, h.lt, Nat.le_trans h.size k.size, fun g hg hne => (k.block g (Nat.lt_of_lt_of_le hg h.size) hne).trans (h.block g hg hne), k.os.trans h.os, k.tape.trans h.tape, k.output.trans h.output⟩
theorem Srt.swap (h : Srt w blk off d w1) {i j : Nat} (hi : i < d.size) (hj : j < d.size) : Srt w blk off (swp d i j) ((w1.drew.setCells blk (off + i * 2) (encA_I d[j]!)).setCells blk (off + j * 2) (encA_I d[i]!)) := by
  have e1 : sortWorldK encA_I 2 w1 blk off 0 d #[] = w1 := by unfold sortWorldK; rw [grow_empty]; exact putRowK_self encA_I 2 w1 blk off d h.holds
  have e2 := sortWorldK_swp_c encA_I 2 w1 blk off (fun _ => rfl) 0 d #[] h.lt1 i j hi hj
  rw [e1] at e2
  rw [e2]
  refine ⟨holdsK_sortWorldK_c encA_I 2 w1 blk off d _ _ _ h.holds h.lt1 (size_swp _ _ _), h.lt, Nat.le_trans h.size (size_sortWorldK_c encA_I 2 w1 blk off _ _ _), fun g hg hne => ?_, h.os, h.tape, h.output⟩
  have hg1 : g < w1.heap.size := Nat.lt_of_lt_of_le hg h.size
  refine Eq.trans ?_ (h.block g hg hne)
  show ((putRowK encA_I 2 (Sort.ahead w1 _) blk off _).heap ++ _)[g]? = _
  rw [Array.getElem?_append_left (by rw [size_putRowK]; exact hg1)]
  show ((Sort.ahead w1 _).heap.modify blk _)[g]? = _
  rw [Array.getElem?_modify, if_neg (Ne.symm hne)]
  rfl
theorem Srt.cells (h : Srt w blk off d w1) {i : Nat} (hi : i < d.size) (p : ExtW w1) : p.to.cell? ⟨blk, off + i * 2, none⟩ = some (.int .i64 d[i]!.1) ∧ p.to.cell? ⟨blk, off + i * 2 + 1, none⟩ = some (.int .i64 d[i]!.2) :=
  ⟨((h.below p.h).holds.cell (i := i) (c := 0) hi (by decide)).1, ((h.below p.h).holds.cell (i := i) (c := 1) hi (by decide)).1⟩
theorem Srt.own (h : Srt w blk off d w1) {i : Nat} (hi : i < d.size) : w1.cell? ⟨blk, off + i * 2, none⟩ = some (.int .i64 d[i]!.1) ∧ w1.frozen? ⟨blk, off + i * 2, none⟩ = false ∧ w1.cell? ⟨blk, off + i * 2 + 1, none⟩ = some (.int .i64 d[i]!.2) ∧ w1.frozen? ⟨blk, off + i * 2 + 1, none⟩ = false :=
  ⟨(h.holds.cell (i := i) (c := 0) hi (by decide)).1, (h.holds.cell (i := i) (c := 0) hi (by decide)).2, (h.holds.cell (i := i) (c := 1) hi (by decide)).1, (h.holds.cell (i := i) (c := 1) hi (by decide)).2⟩
end
theorem lessA_iff (x y : Int × Int) : lessA x y = decide (cmpA x y < 0) := (cmpA_lt x y).symm
end Go.Proofs.Ytgpejfkmdenonaa
