/- Texts that the law leans on. -/
import Derived.Test.YtlkmagmdhopcjaaGreatMVoA
namespace Go.Proofs.YtlkmagmdhopcjaaGreat
open Go.RowKit Go.Sort Go.Lib
set_option maxRecDepth 100000
structure BoxG (w:World) (g:Nat) (cs:Array Value) (T:TypeId) (W:World):Prop where
 b:Below w.heap.size w W
 row:W.heap[g]?=some (.cells cs T (0,0))
theorem BoxG.lt {w W:World} {g:Nat} {cs:Array Value} {t:TypeId} (h:BoxG w g cs t W):g < W.heap.size:=by
 rcases Nat.lt_or_ge g W.heap.size with k | k
 ·exact k
 ·have:=h.row
  rw [Array.getElem?_eq_none k] at this
  cases this
theorem BoxG.next {w W W':World} {g:Nat} {cs:Array Value} {t:TypeId} (h:BoxG w g cs t W) (hb:Below W.heap.size W W'):BoxG w g cs t W' :=
 ⟨qaa h.b hb,(hb.block _ h.lt).trans h.row⟩
theorem BoxG.at_ {w W:World} {g:Nat} {cs:Array Value} {t:TypeId} (h:BoxG w g cs t W) (j:Nat) {v:Value} (hj:cs[j]?=some v):W.cell? ⟨g,j,none⟩=some v:=by
 rw [cell_of_row W _ j cs t (0,0) h.row];exact hj
theorem BoxG.fst (w:World) (cs cs':Array Value) (t t':TypeId):BoxG w w.heap.size cs t ((w.alloc (.cells cs t)).alloc (.cells cs' t')) :=
 ⟨qab (bel1 w _) _,((bel1 (w.alloc (.cells cs t)) (.cells cs' t')).block _ (by simp)).trans (heap_alloc_new w _)⟩
theorem BoxG.snd (w:World) (cs cs':Array Value) (t t':TypeId):BoxG w (w.heap.size + 1) cs' t' ((w.alloc (.cells cs t)).alloc (.cells cs' t')) :=
 ⟨qab (bel1 w _) _,heap_alloc2_new w _ _⟩
def sameH (a b:RP):Prop:=a.n=b.n∧a.f=b.f∧a.self=b.self∧a.clock=b.clock∧a.seq=b.seq∧a.floor=b.floor∧a.ticks=b.ticks∧a.lt=b.lt∧a.lid=b.lid∧a.count=b.count
instance (a b:RP):Decidable (sameH a b):=by unfold sameH;infer_instance
end Go.Proofs.YtlkmagmdhopcjaaGreat
