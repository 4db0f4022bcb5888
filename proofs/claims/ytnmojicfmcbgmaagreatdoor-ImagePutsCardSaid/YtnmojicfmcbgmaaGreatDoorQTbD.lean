/- Texts that the law leans on. -/
import Derived.Lib.SliceRun
import Derived.Test.YtnmojicfmcbgmaaGreatDoorQSrtK
import Derived.Test.YtnmojicfmcbgmaaGreatDoorQTbB
import Derived.Test.YtnmojicfmcbgmaaGreatDoorShelf
namespace Go.Proofs.YtnmojicfmcbgmaaGreatDoor
open Go.RowKit Go.Sort Go.Lib
set_option maxRecDepth 100000
theorem qwt:(Tryz.prog.info? 132).map (fun i=>(i.zero,i.size,i.bytes))=some (some (.agg #[.int .i64 0,.int .i64 0,.int .i64 0,.int .i64 0,.int .i64 0,.int .i64 0,.int .i64 0,.int .i64 0,.string ⟨#[]⟩,.slice none 0 0]),10,104):=by kernel_rfl
theorem newL (W:World) (l:List Value) (t:TypeId):∀ j u,l[j]?=some u→(W.alloc (.cells l.toArray t)).cell? ((⟨W.heap.size,0,none⟩:Addr).add j)=some u:=by
 intro j u hj
 rw [Addr.add_lit,Nat.zero_add,qco]
 rw [←hj]
 simp
end Go.Proofs.YtnmojicfmcbgmaaGreatDoor
