/- Texts that the law leans on. -/
import Derived.Deep.AppendLies
import Derived.Test.YtdcfffhoajmafaaGreatQRangesF
namespace Go.Proofs.YtdcfffhoajmafaaGreat
open Go.RowKit Go.Sort Go.Lib Go.Proofs.Tryz
theorem qei {w w':World} {a:Nat} {e:TypeId} {b:Nat} {v:Value} {n:Nat} {j:List Value} (h:w.ownsRow a e b v n j) (k:∀ g,a<=g->g < w.heap.size->w'.heap[g]?=w.heap[g]?):w'.ownsRow a e b v n j :=
 ⟨h.1,h.2.imp id fun ⟨g,c,d,l,f,i,m⟩=>⟨g,c,d,l,f,(k g f (vbm.1 i).1).trans i,m⟩⟩
theorem qdm {W:World} {B:Nat} {o a:Obj} (h:W.heap[B]?=some o):(W.alloc a).heap[B]?=some o :=
 (Below.heap_alloc W a B (by have:=(vbm.1 h).1;omega)).trans h
