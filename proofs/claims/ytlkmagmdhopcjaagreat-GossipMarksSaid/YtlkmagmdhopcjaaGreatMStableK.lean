/- Texts that the law leans on. -/
import Derived.Laws.AppendOwnNone
import Derived.Deep.RegionHeld3
import Derived.Shelf.SlSortCmp.InsertionK
import Derived.Laws.EntriesVeiled
import Derived.Test.YtlkmagmdhopcjaaGreatMRead
namespace Go.Proofs.YtlkmagmdhopcjaaGreat
open Go.RowKit Go.Sort Go.Lib
theorem min_le (l:List Int):∀ k,1≤k→k≤l.length→∀ i,i < k→Lib.minOf (l.take k)≤l.getD i 0
 | 0,h,_,_,_=>absurd h (by omega)
 | 1,_,_,i,hi=>by
   obtain rfl:i=0:=by omega
   rw [minOf_one];exact Int.le_refl _
 | k + 2,_,hk,i,hi=>by
   rw [minOf_step l (k + 1) (by omega) (by omega)]
   rcases Nat.lt_or_ge i (k + 1) with h | h
   ·have:=min_le l (k + 1) (by omega) (by omega) i h;omega
   ·obtain rfl:i=k + 1:=by omega
    omega
end Go.Proofs.YtlkmagmdhopcjaaGreat
