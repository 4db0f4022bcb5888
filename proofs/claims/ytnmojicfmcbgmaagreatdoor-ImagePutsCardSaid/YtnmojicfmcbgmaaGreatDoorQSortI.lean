/- Texts that the law leans on. -/
import Derived.Deep.CutRange
import Derived.Deep.CutBlock
import Derived.Shelf.SlSortCmp.Xorshift
import Derived.Test.YtnmojicfmcbgmaaGreatDoorQSortA
namespace Go.Proofs.YtnmojicfmcbgmaaGreatDoor
open Go.RowKit Go.Sort Go.Lib
theorem swoL:SWO qee where
 irrefl x:=by unfold qee;simp
 trans x y z h1 h2:=by unfold qee at *;simp at *;omega
 ntrans x y z h1 h2:=by unfold qee at *;simp at *;omega
def Todo (A B:Nat) (D:Array (Int×Int)) (a b:Nat) (d:Array (Int×Int)):Prop:=∀ R,PermIn a b d R→SortedIn qee a b R→PermIn A B D R∧SortedIn qee A B R
theorem Todo.perm {A B a b:Nat} {D d d':Array (Int×Int)} (h:Todo A B D a b d) (hp:PermIn a b d d'):Todo A B D a b d':=fun R h1 h2=>h R (permIn_trans _ _ _ _ _ hp h1) h2
end Go.Proofs.YtnmojicfmcbgmaaGreatDoor
