/- The document's Take, with its Check. -/
import Derived.Test.YtlpplnmmcgdooaaGreatDoorDocX
import Derived.Test.YtlpplnmmcgdooaaGreatDoorDocQ
namespace Go.Proofs.YtlpplnmmcgdooaaGreatDoor
open Go.RowKit Go.Sort Nb

theorem dChk_any (m : PM) (w : World) (hm : RdM w m) :
    Calls Tryz.prog 14 #[msgV m] w fun e w' => e = .returned (.int .i64 (chkM m)) ∧ Below w.heap.size w w' := by
  have := rChk_any m w hm
  rw [chkR_eq] at this
  exact this
theorem dTake_any (s : ByteArray) (w : World) (hs : s.size ≤ 1000000) :
    Calls Tryz.prog 20 #[.string s] w fun e w' => DTakeP s e w' ∧ Below w.heap.size w w' := dTake_of dChk_any s w hs
theorem pmOf_same (x : Raw) (a a' c c' : Option Addr) (b b' d d' : Nat) : sameM (pmOf x a b c d) (pmOf x a' b' c' d') = true := by
  rw [sameM_iff]
  exact ⟨rfl, rfl, rfl, rfl, rfl, rfl, rfl, rfl, rfl, rfl, rfl, rfl, rfl, rfl⟩
end Go.Proofs.YtlpplnmmcgdooaaGreatDoor
