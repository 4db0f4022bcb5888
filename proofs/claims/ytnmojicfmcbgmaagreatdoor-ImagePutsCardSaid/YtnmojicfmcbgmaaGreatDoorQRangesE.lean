/- Texts that the law leans on. -/
import Derived.Shelf.SlSortCmp.NoneTotal
import Derived.Test.YtnmojicfmcbgmaaGreatDoorQRead
import Derived.Test.YtnmojicfmcbgmaaGreatDoorQOwnK
namespace Go.Proofs.YtnmojicfmcbgmaaGreatDoor
open Go.RowKit Go.Sort Go.Lib
theorem encR_len (x:Int×Int):(encR x).length=2:=rfl
end Go.Proofs.YtnmojicfmcbgmaaGreatDoor
