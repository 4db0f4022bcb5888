/- The closed facts of the row of the law GossipMarks. -/
import Derived.Test.YtlkmagmdhopcjaaGreatMLaw
namespace Go.Proofs.YtlkmagmdhopcjaaGreat.gossipMarks
open Go.ChangeShapes Go.WideShapes Go.ChangeAt Go.RowKit
theorem fact1:Tryz.pinned.checked.prog.funcNamed Rows.gossipMarksRow.func=some 5:=by kernel_rfl
theorem fact2:joinedFacts Tryz.pinned.checked.prog 5 Tryz.f5 Rows.gossipMarksSpec Rows.gossipMarksRow=true:=by kernel_rfl
theorem fact3:Tryz.f5.isInstance Tryz.pinned.checked.prog Rows.gossipMarksRow.origin Rows.gossipMarksRow.targs:=of_decide_eq_true (by kernel_rfl)
theorem fact4:Tryz.f5.isWrapper Tryz.pinned.checked.prog Rows.gossipMarksRow.wrapper Rows.gossipMarksRow.mainSum:=by
 unfold Func.isWrapper;first | (rw [if_pos (by decide +kernel)];kernel_rfl) | (rw [if_neg (by decide +kernel)];exact ⟨rfl,rfl⟩)
end Go.Proofs.YtlkmagmdhopcjaaGreat.gossipMarks
