/- The document's rows: an append at a step of a region that draws its order. -/
import Derived.Deep.RegionHeld3
import Derived.Deep.DrawnRows
import Derived.Maps.AppendAt
import Derived.Deep.AppendLies
import Derived.Test.YtnmojicfmcbgmaaGreatDoorQBase
import Derived.Test.YtnmojicfmcbgmaaGreatDoorQAnyE
import Derived.Test.YtnmojicfmcbgmaaGreatDoorQRdr
import Derived.Test.YtnmojicfmcbgmaaGreatDoorQOwnK
namespace Go.Proofs.YtnmojicfmcbgmaaGreatDoor
open Go Go.RowKit Go.Sort Nb
theorem heap_new_D (w : World) (o : Obj) : (w.alloc o).heap[w.heap.size]? = some o := by show (w.heap.push o)[w.heap.size]? = _; simp
theorem heap_new2_D (w : World) (a o : Obj) : ((w.alloc a).alloc o).heap[w.heap.size + 1]? = some o := by
  have h := heap_new_D (w.alloc a) o
  have e : (w.alloc a).heap.size = w.heap.size + 1 := by simp
  rw [e] at h
  exact h
theorem hA1 (w : World) (o : Obj) : ((w.alloc o).drew).heap[w.heap.size]? = some o := heap_new_D w o
end Go.Proofs.YtnmojicfmcbgmaaGreatDoor
