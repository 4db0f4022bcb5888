/- Texts that the law leans on. -/
import Derived.Deep.AppendLies
import Derived.Test.YtlkmagmdhopcjaaGreatMRangesF
namespace Go.Proofs.YtlkmagmdhopcjaaGreat
open Go.RowKit Go.Sort Go.Lib
theorem own_heap {w w':World} {base:Nat} {e:TypeId} {size:Nat} {v:Value} {n:Nat} {xs:List Value} (h:w.ownsRow base e size v n xs) (hb:∀ g,base≤g→g < w.heap.size→w'.heap[g]?=w.heap[g]?):w'.ownsRow base e size v n xs :=
 ⟨h.1,h.2.imp id fun ⟨g,cap,cur,q1,q2,q3,q4⟩=>⟨g,cap,cur,q1,q2,(hb g q2 (Array.getElem?_eq_some_iff.1 q3).1).trans q3,q4⟩⟩
theorem qcj {W:World} {B:Nat} {o o':Obj} (h:W.heap[B]?=some o):(W.alloc o').heap[B]?=some o :=
 (Below.heap_alloc W o' B (by have:=(Array.getElem?_eq_some_iff.1 h).1;omega)).trans h
end Go.Proofs.YtlkmagmdhopcjaaGreat
