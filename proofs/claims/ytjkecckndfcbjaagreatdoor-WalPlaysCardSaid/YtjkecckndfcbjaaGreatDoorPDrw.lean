/- Texts that the law leans on. -/
import Derived.Deep.RegionHeld3
import Derived.Deep.DrawnRows
import Derived.Maps.AppendAt
import Derived.Deep.AppendLies
import Derived.Test.YtjkecckndfcbjaaGreatDoorPBase
import Derived.Test.YtjkecckndfcbjaaGreatDoorPAnyE
import Derived.Test.YtjkecckndfcbjaaGreatDoorPDocR
import Derived.Test.YtjkecckndfcbjaaGreatDoorPRowA
namespace Go.Proofs.YtjkecckndfcbjaaGreatDoor
open Go Go.RowKit Go.Sort Nb
theorem qio (w:World) (o:Obj):(w.alloc o).heap[w.heap.size]?=some o:=by show (w.heap.push o)[w.heap.size]?=_;simp
theorem qsc (w:World) (a o:Obj):((w.alloc a).alloc o).heap[w.heap.size + 1]?=some o:=by
 have h:=qio (w.alloc a) o
 have e:(w.alloc a).heap.size=w.heap.size + 1:=by simp
 rw [e] at h
 exact h
theorem hA1 (w:World) (o:Obj):((w.alloc o).drew).heap[w.heap.size]?=some o:=qio w o
theorem hA2 (w:World) (o o':Obj):(((w.alloc o).alloc o').drew).heap[w.heap.size]?=some o:=(Below.heap_alloc _ _ _ (by simp)).trans (qio w o)
theorem hA3 (w:World) (o o':Obj):(((w.alloc o).alloc o').drew).heap[w.heap.size + 1]?=some o':=qsc w o o'
end Go.Proofs.YtjkecckndfcbjaaGreatDoor
