/- Texts that the law leans on. -/
import Derived.Test.YtnmojicfmcbgmaaGreatDoorQTbD
import Derived.Test.YtnmojicfmcbgmaaGreatDoorQSortJ
import Derived.Test.YtnmojicfmcbgmaaGreatDoorQIdentB
import Derived.Test.YtnmojicfmcbgmaaGreatDoorQRead
namespace Go.Proofs.YtnmojicfmcbgmaaGreatDoor
open Go.RowKit Go.Sort Go.Lib
set_option maxRecDepth 100000
def encJ_T (x:Int):List Value:=[.int .i64 x]
end Go.Proofs.YtnmojicfmcbgmaaGreatDoor
