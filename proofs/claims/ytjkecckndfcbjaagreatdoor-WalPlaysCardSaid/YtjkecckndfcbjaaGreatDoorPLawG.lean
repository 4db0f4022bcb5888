/- Texts that the law leans on. -/
import Derived.ChangeVars
import Derived.ChangeMaps5
import Derived.JoinedOf
import Derived.LaidLaws
import Derived.LaidHandle
import Derived.Stop.Joined
import Derived.SevenTiedAt
import Derived.Test.YtjkecckndfcbjaaGreatDoorPLaw
import Derived.Test.YtjkecckndfcbjaaGreatDoorPErrA
import Derived.Test.YtjkecckndfcbjaaGreatDoorTie
import Derived.Test.YtjkecckndfcbjaaGreatDoorCards
namespace Go.Proofs.YtjkecckndfcbjaaGreatDoor
open Go.ChangeShapes Go.WideShapes Go.RowKit
def qwz : List (String × DataW Unit) := [("errors.errorType", Rows.laid_errors_errorType)]
theorem tEt : Tryz.prog.globalNamed "errors.errorType" = some 0 := by kernel_rfl
theorem tRt : (Tryz.prog.cutTypes.find? (·.1 == "internal/reflectlite.rtype")).map (·.2) = some 189 := by kernel_rfl
theorem tRow:((List.range 316).filter fun t=>Tryz.prog.rowNamed t [101,114,114,111,114])=[27]:=by kernel_rfl
theorem tSize:Tryz.prog.types.size = 316:=by kernel_rfl
theorem qqe {W:World} (h:laidMetH Tryz.prog qwz W):Glob W:=by
 have h':laidMet Tryz.prog [] W∧handlesMet Tryz.prog qwz W:=h
 obtain ⟨name,u,ty,e1,e2,e3,e4,e5⟩:=h'.2 _ (List.mem_singleton.2 rfl)
 have en:name=[101,114,114,111,114]:=(Option.some.inj e1).symm
 subst en
 obtain rfl:=Option.some.inj (tRt.symm.trans e2)
 have hm:ty ∈ (List.range 316).filter fun t=>Tryz.prog.rowNamed t [101,114,114,111,114]:=List.mem_filter.2 ⟨List.mem_range.2 (by rw [←tSize];exact e3),e4⟩
 rw [tRow] at hm
 obtain rfl:=List.mem_singleton.1 hm
 have hh:typeHandle Tryz.prog 27 = .pointer (some ⟨1,27,none⟩):=by kernel_rfl
 rw [hh] at e5
 unfold Glob
 simpa using World.var?_cell tEt e5 0
noncomputable def qqf (os:Os):World :=
 let w0:=World.holding Tryz.prog os ⟨#[],#[],[]⟩
 { w0 with heap:=w0.heap.modify 0 fun
  | .cells _ t frozen=>.cells #[.iface 189 (.agg #[.pointer (some ⟨1,27,none⟩)])] t frozen
  | o=>o }
theorem qnr (os:Os) (args:Array Value):laidMetH Tryz.prog qwz ((qqf os).forCall (fun _ _=>0) ⟨#[],args,[]⟩).memory :=
 laidMetH_of_parts (laidMet_nil _ _) (by kernel_rfl)
end Go.Proofs.YtjkecckndfcbjaaGreatDoor
