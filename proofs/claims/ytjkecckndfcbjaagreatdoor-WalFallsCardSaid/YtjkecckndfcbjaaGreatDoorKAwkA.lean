/- Texts that the law leans on. -/
import Derived.Test.YtjkecckndfcbjaaGreatDoorKMsgV
import Derived.Test.YtjkecckndfcbjaaGreatDoorKErrD
namespace Go.Proofs.YtjkecckndfcbjaaGreatDoor
open Go.RowKit Go.Sort Nb
end Go.Proofs.YtjkecckndfcbjaaGreatDoor
namespace Go.Proofs.YtjkecckndfcbjaaGreatDoor
open Go.RowKit Go.Sort Nb
theorem qdn {w:World} {ops:List ByteArray} {c:Int} {v:Value} (h:ErrV w ops c v) (hc:c≠0):Chain w ops c v:=by
 rcases h with ⟨h,_⟩ | ⟨_,h⟩
 ·exact absurd h hc
 ·exact h
end Go.Proofs.YtjkecckndfcbjaaGreatDoor
namespace Go.Proofs.YtjkecckndfcbjaaGreatDoor
open Go.RowKit Go.Sort Nb
theorem qcb {w W:World} {o:Obj} (h:Below (w.alloc o).heap.size (w.alloc o) W):W.heap[w.heap.size]?=some o:=(h.block _ (by simp)).trans (qcq w o)
end Go.Proofs.YtjkecckndfcbjaaGreatDoor
