/- Texts that the law leans on. -/
import Derived.Test.YtdcfffhoajmafaaGreatQDelN
import Derived.Test.YtdcfffhoajmafaaGreatQCopyK
set_option maxRecDepth 100000
namespace Go.Proofs.YtdcfffhoajmafaaGreat
open Go.RowKit Go.Sort Go.Lib Go.Proofs.Tryz
def insL (e:EN):Bool->List EN->List EN
 | b,[]=>if b=true then [] else [e]
 | b,x :: r=>(if e.id<=x.id/\b=false then [e] else []) ++ ((if x.id=e.id then [] else [x]) ++ insL e (b || decide (e.id<=x.id)) r)
def putS (d:Array EN) (e:EN):Array EN:=(insL e false d.toList).toArray
def putC (d:Array EN) (e:EN):Int:=if (chkT d && qgh e)=true then (if 40 < (putS d e).size then 8 else 0) else 2
def putD (d:Array EN) (e:EN):Array EN:=if putC d e=0 then putS d e else #[]
theorem qvy {d:Array EN} (h:chkT d=true):∀ i j,i < j->j < d.size->d[i]!.id < d[j]!.id:=by
 have f:=(qeo.1 h).2;intro i j
 induction j with
 | zero=>intro b;omega
 | succ j ih =>
   intro b g;have a:=f (j + 1) g;unfold atT at a;rw [vav,vap] at a;have e:=a.2 jo;rw [vem] at e;rcases val i j with c | c
   .have:=ih c jo;omega
   obtain rfl:i=j:=by omega
   exact e
