/- Texts that the law leans on. -/
import Derived.Deep.AppendLies
import Derived.Test.YtnmojicfmcbgmaaGreatDoorQRangesF
namespace Go.Proofs.YtnmojicfmcbgmaaGreatDoor
open Go.RowKit Go.Sort Go.Lib
theorem qes {W:World} {B:Nat} {o o':Obj} (h:W.heap[B]?=some o):(W.alloc o').heap[B]?=some o :=
 (Below.heap_alloc W o' B (by have:=(Array.getElem?_eq_some_iff.1 h).1;omega)).trans h
end Go.Proofs.YtnmojicfmcbgmaaGreatDoor
