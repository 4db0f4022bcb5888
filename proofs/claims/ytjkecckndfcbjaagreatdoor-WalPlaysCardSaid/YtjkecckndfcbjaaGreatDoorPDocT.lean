/- Texts that the law leans on. -/
import Derived.OrdersHeld
import Derived.Deep.RegionHeld
import Derived.Deep.RegionHeld3
import Derived.Deep.DrawnRows
import Derived.Maps.AppendAt
import Derived.Deep.AppendLies
import Derived.Test.YtjkecckndfcbjaaGreatDoorPBase
import Derived.Test.YtjkecckndfcbjaaGreatDoorPAnyE
import Derived.Test.YtjkecckndfcbjaaGreatDoorPDrw
import Derived.Test.YtjkecckndfcbjaaGreatDoorPMsgF
import Derived.Test.YtjkecckndfcbjaaGreatDoorPMsgV
import Derived.Test.YtjkecckndfcbjaaGreatDoorPDocR
namespace Go.Proofs.YtjkecckndfcbjaaGreatDoor
open Go.RowKit Go.Sort Nb
theorem rdI_blk {w:World} {g:Nat} {d:Array Int} (h:w.heap[g]?=some (.cells (d.map encI) 3 (0,0))):RdI w.heap.size w (some ⟨g,0,none⟩) d:=fun _=>⟨g,0,rfl,qaa h,fun i hi=>by rw [Nat.zero_add];exact qvu h hi⟩
end Go.Proofs.YtjkecckndfcbjaaGreatDoor
