/- Texts that the law leans on. -/
import Derived.Test.YtlkmagmdhopcjaaGreatMRead
import Derived.Test.YtlkmagmdhopcjaaGreatMEnC
namespace Go.Proofs.YtlkmagmdhopcjaaGreat
open Go.RowKit Go.Sort Go.Lib
set_option maxRecDepth 100000
def RckA (r:RP) (a0 c15 c21 c18 c17:Int):Prop :=
 a0≠0∧1≤r.self∧r.self≤r.n∧c15=0∧0≤r.seq∧r.seq≤99999∧0≤r.ticks∧r.ticks≤1000000∧0≤r.count∧r.count≤1000000∧c21=0∧(r.k.z.size:Int)=r.n∧c18=0∧c17=0∧(r.d.z.size:Int)=r.n
def RckB (r:RP) (ck cd:Nat→Int):Prop :=
 (∀ i,i < r.e.z.size→qbe r.e.z[i]!.id≤r.n)∧(∀ i,i < r.k.z.size→ck i=0∧cd i=0∧∀ j,j < r.d.z[i]!.z.size→r.d.z[i]!.z[j]!.2≤99999)
def RckC (r:RP):Prop:=(r.lt=0∧r.lid=0)∨((10≤r.lid∧r.lid≤999999∧r.lid % 10≠0)∧1≤r.lt∧r.lt≤1000000)
end Go.Proofs.YtlkmagmdhopcjaaGreat
