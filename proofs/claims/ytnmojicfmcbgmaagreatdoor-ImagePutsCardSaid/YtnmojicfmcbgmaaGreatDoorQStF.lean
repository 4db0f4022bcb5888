/- Texts that the law leans on. -/
import Derived.Test.YtnmojicfmcbgmaaGreatDoorQStC
import Derived.Test.YtnmojicfmcbgmaaGreatDoorQEnC
import Derived.Test.YtnmojicfmcbgmaaGreatDoorQRead
namespace Go.Proofs.YtnmojicfmcbgmaaGreatDoor
open Go.RowKit Go.Sort Go.Lib
set_option maxRecDepth 100000
structure BoxR (w:World) (cs:Array Value) (T:TypeId) (W:World):Prop where
 b:Below w.heap.size w W
 row:W.heap[w.heap.size]?=some (.cells cs T (0,0))
theorem BoxR.init (w:World) (cs:Array Value) (t:TypeId):BoxR w cs t (w.alloc (.cells cs t)):=⟨bel1 w _,heap_alloc_new w _⟩
theorem BoxR.lt {w W:World} {cs:Array Value} {t:TypeId} (h:BoxR w cs t W):w.heap.size < W.heap.size:=by
 rcases Nat.lt_or_ge w.heap.size W.heap.size with g | g
 ·exact g
 ·have:=h.row
  rw [Array.getElem?_eq_none g] at this
  cases this
theorem BoxR.next {w W W':World} {cs:Array Value} {t:TypeId} (h:BoxR w cs t W) (hb:Below W.heap.size W W'):BoxR w cs t W' :=
 ⟨qac h.b hb,(hb.block _ h.lt).trans h.row⟩
theorem BoxR.at_ {w W:World} {cs:Array Value} {t:TypeId} (h:BoxR w cs t W) (j:Nat) {v:Value} (hj:cs[j]?=some v):W.cell? ⟨w.heap.size,j,none⟩=some v:=by
 rw [cell_of_row W _ j cs t (0,0) h.row];exact hj
theorem BoxR.box {w W:World} {cs:Array Value} {t:TypeId} (h:BoxR w cs t W) {n:Nat} (hn:cs.size=n):qgm W w.heap.size n=true:=qav h.row hn
theorem BoxR.rowAt {w W:World} {cs:Array Value} {t:TypeId} (h:BoxR w cs t W):rowAt W w.heap.size=cs:=qbh h.row
attribute [local go_sem ↓] qbc qba
attribute [local go_sem] qbt qci
def doneI (r:RP) (id:Int):Bool:=decide (1≤qbf id∧qbf id≤r.n) && qcf r.d.z[(qbf id).toNat - 1]!.z (seqN_I id)
end Go.Proofs.YtnmojicfmcbgmaaGreatDoor
