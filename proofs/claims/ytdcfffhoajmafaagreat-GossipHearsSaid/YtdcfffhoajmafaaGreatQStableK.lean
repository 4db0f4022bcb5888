/- Texts that the law leans on. -/
import Derived.Laws.AppendOwnNone
import Derived.Deep.RegionHeld3
import Derived.Shelf.SlSortCmp.InsertionK
import Derived.Laws.EntriesVeiled
import Derived.Test.YtdcfffhoajmafaaGreatQRead
namespace Go.Proofs.YtdcfffhoajmafaaGreat
open Go.RowKit Go.Sort Go.Lib Go.Proofs.Tryz
theorem qla (w:World) (e:TypeId):(w.alloc (.cells #[] e)).ownsRow w.heap.size e 1 (.slice (some ⟨w.heap.size,0,none⟩) 0 0) 0 [] :=
 vev w #[] 0 (vaa _) (vaj _) js
