/- Texts that the law leans on. -/
import Derived.OrdersHeld
import Derived.Deep.RegionHeld
import Derived.Deep.RegionHeld3
import Derived.Deep.DrawnRows
import Derived.Maps.AppendAt
import Derived.Deep.AppendLies
import Derived.Test.YtjkecckndfcbjaaGreatDoorKBase
import Derived.Test.YtjkecckndfcbjaaGreatDoorKAnyE
import Derived.Test.YtjkecckndfcbjaaGreatDoorKDrw
import Derived.Test.YtjkecckndfcbjaaGreatDoorKMsgF
import Derived.Test.YtjkecckndfcbjaaGreatDoorKAwkA
import Derived.Test.YtjkecckndfcbjaaGreatDoorKDocR
namespace Go.Proofs.YtjkecckndfcbjaaGreatDoor
open Go.RowKit Go.Sort Nb
theorem rdI_blk {w:World} {g:Nat} {d:Array Int} (h:w.heap[g]?=some (.cells (d.map encI) 3 (0,0))):RdI w.heap.size w (some ⟨g,0,none⟩) d:=fun _=>⟨g,0,rfl,qaa h,fun i hi=>by rw [Nat.zero_add];exact qxa h hi⟩
end Go.Proofs.YtjkecckndfcbjaaGreatDoor
