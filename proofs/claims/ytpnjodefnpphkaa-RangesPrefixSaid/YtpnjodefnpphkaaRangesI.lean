/- Contracts of the layer 'ranges' and of the document's: held, fits, Same, Add. -/
import Derived.Test.YtpnjodefnpphkaaRangesH
import Derived.Laws.StructEq
namespace Go.Proofs.Ytpnjodefnpphkaa
open Go.RowKit Go.Sort Go.Lib

/-- A range's numbers from 1 to the last. -/
def heldR (x : Int × Int) : Int × Int := (max x.1 1, min x.2 1000000)
theorem held_any (x : Int × Int) (w : World) :
    Calls Try.prog 59 #[.agg #[.int .i64 x.1, .int .i64 x.2]] w fun e w' => e = .returned (.agg #[.int .i64 (heldR x).1, .int .i64 (heldR x).2]) ∧ Below w.heap.size w w' := by
  unfold heldR
  go_enter Try.func59, Try.ntmps59
  go_wp2
  have hS : Try.prog.underlying 42 = some (.struct (Try.prog.fieldsOf 42)) := by kernel_rfl
  refine bodyPost_ret (results_cell_row rfl _ _ (w.heap.size + 1) 42 _ (0, 0) _ rfl (heap_alloc2_new w _ _) hS rfl (by kernel_rfl)) rfl ?_
  exact ⟨rfl, belAlloc (bel1 _ _) _⟩
theorem fits_any (v1 v2 : Option Addr) (n1 c1 n2 c2 : Nat) (w : World) :
    Calls Try.prog 61 #[.slice v1 n1 c1, .slice v2 n2 c2] w fun e w' => e = .returned (if n1 ≤ 1000 then .slice v1 n1 c1 else .slice v2 n2 c2) ∧ w = w' := by
  by_cases h : n1 ≤ 1000
  · have h' : decide ((1000 : Int) < (n1 : Int)) = false := by simp; omega
    go_enter Try.func61, Try.ntmps61
    go_wp2
    go_ret
    exact ⟨rfl, rfl⟩
  · have h' : (1000 : Int) < (n1 : Int) := by omega
    clear h
    go_enter Try.func61, Try.ntmps61
    go_wp2
    go_ret
    exact ⟨rfl, rfl⟩
end Go.Proofs.Ytpnjodefnpphkaa
