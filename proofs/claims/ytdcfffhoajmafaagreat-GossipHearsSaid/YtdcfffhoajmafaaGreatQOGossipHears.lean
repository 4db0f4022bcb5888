/- The closed facts of the row of the law GossipHears. -/
import Derived.Test.YtdcfffhoajmafaaGreatQLaw
namespace Go.Proofs.YtdcfffhoajmafaaGreat.gossipHears
open Go.ChangeShapes Go.WideShapes Go.ChangeAt Go.RowKit
theorem fact1:Tryz.pinned.checked.prog.funcNamed Rows.gossipHearsRow.func=some 3:=by kernel_rfl
theorem fact2:joinedFacts Tryz.pinned.checked.prog 3 Tryz.f3 Rows.gossipHearsSpec Rows.gossipHearsRow=true:=by kernel_rfl
theorem fact3:Tryz.f3.isInstance Tryz.pinned.checked.prog Rows.gossipHearsRow.origin Rows.gossipHearsRow.targs:=of_decide_eq_true (by kernel_rfl)
theorem fact4:Tryz.f3.isWrapper Tryz.pinned.checked.prog Rows.gossipHearsRow.wrapper Rows.gossipHearsRow.mainSum:=by
 unfold Func.isWrapper;first | (rw [if_pos (by decide +kernel)];kernel_rfl) | (rw [if_neg (by decide +kernel)];exact ⟨rfl,rfl⟩)
