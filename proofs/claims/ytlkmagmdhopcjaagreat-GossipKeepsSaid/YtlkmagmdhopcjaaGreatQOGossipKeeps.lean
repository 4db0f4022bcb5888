/- The closed facts of the row of the law GossipKeeps. -/
import Derived.Test.YtlkmagmdhopcjaaGreatQLaw
namespace Go.Proofs.YtlkmagmdhopcjaaGreat.gossipKeeps
open Go.ChangeShapes Go.WideShapes Go.ChangeAt Go.RowKit
theorem fact1:Tryz.pinned.checked.prog.funcNamed Rows.gossipKeepsRow.func=some 4:=by kernel_rfl
theorem fact2:joinedFacts Tryz.pinned.checked.prog 4 Tryz.f4 Rows.gossipKeepsSpec Rows.gossipKeepsRow=true:=by kernel_rfl
theorem fact3:Tryz.f4.isInstance Tryz.pinned.checked.prog Rows.gossipKeepsRow.origin Rows.gossipKeepsRow.targs:=of_decide_eq_true (by kernel_rfl)
theorem fact4:Tryz.f4.isWrapper Tryz.pinned.checked.prog Rows.gossipKeepsRow.wrapper Rows.gossipKeepsRow.mainSum:=by
 unfold Func.isWrapper;first | (rw [if_pos (by decide +kernel)];kernel_rfl) | (rw [if_neg (by decide +kernel)];exact ⟨rfl,rfl⟩)
end Go.Proofs.YtlkmagmdhopcjaaGreat.gossipKeeps
