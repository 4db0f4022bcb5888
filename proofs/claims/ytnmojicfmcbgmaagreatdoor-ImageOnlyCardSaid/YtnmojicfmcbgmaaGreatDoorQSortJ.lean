/- The sort of commands at times, of any length: slices.SortFunc, a clone, ident.Sort. -/
import Derived.Deep.LoopGhost
import Derived.BigRegion
import Derived.Shelf.Abstract
import Derived.Test.YtnmojicfmcbgmaaGreatDoorQSortI
import Derived.Test.YtnmojicfmcbgmaaGreatDoorQBase
import Derived.Test.YtnmojicfmcbgmaaGreatDoorQIdentB
import Derived.Test.YtnmojicfmcbgmaaGreatDoorQOwnK
namespace Go.Proofs.YtnmojicfmcbgmaaGreatDoor
open Go.RowKit Go.Sort Go.Lib
set_option maxRecDepth 100000
/-- The same commands, in their order. -/
def srtA (d : Array (Int × Int)) : Array (Int × Int) := (d.toList.mergeSort (fun x y => !lessA y x)).toArray
theorem srtA_size (d : Array (Int × Int)) : (srtA d).size = d.size := by
  unfold srtA
  simp [List.length_mergeSort]
end Go.Proofs.YtnmojicfmcbgmaaGreatDoor
