/- Texts that the law leans on. -/
import Derived.Deep.LoopGhost
import Derived.BigRegion
import Derived.Shelf.Abstract
import Derived.Test.YtnmojicfmcbgmaaGreatDoorQSortI
import Derived.Test.YtnmojicfmcbgmaaGreatDoorQBase
import Derived.Test.YtnmojicfmcbgmaaGreatDoorQIdentB
import Derived.Test.YtnmojicfmcbgmaaGreatDoorQOwnK
namespace Go.Proofs.YtnmojicfmcbgmaaGreatDoor
open Go.RowKit Go.Sort Go.Lib
set_option maxRecDepth 100000
def srtA (d:Array (Int×Int)):Array (Int×Int):=(d.toList.mergeSort (fun x y=>!qee y x)).toArray
theorem lessA_eq {x y:Int×Int} (h1:qee x y=false) (h2:qee y x=false):x=y:=by
 obtain ⟨x1,x2⟩:=x
 obtain ⟨y1,y2⟩:=y
 unfold qee at *
 simp at *
 omega
theorem srtA_of {d d':Array (Int×Int)} (hp:PermIn 0 d.size d d') (hs:SortedIn qee 0 d.size d'):d'=srtA d:=by
 have:=sorted_unique_holds (lt:=qee) swoL (fun x y h1 h2=>lessA_eq h1 h2) d d' hp hs
 unfold srtA
 rw [←this]
theorem srtA_size (d:Array (Int×Int)):(srtA d).size=d.size:=by
 unfold srtA
 simp [List.length_mergeSort]
end Go.Proofs.YtnmojicfmcbgmaaGreatDoor
