/- Texts that the law leans on. -/
import Derived.Handy
import Derived.Test.YtdcfffhoajmafaaGreatQRowA
set_option maxRecDepth 100000
set_option maxHeartbeats 40000000
namespace Go.Proofs.YtdcfffhoajmafaaGreat
open Go.RowKit Go.Sort Go.Lib Go.Proofs.Tryz
def qhr (m:PM):PM :=
 { k:=m.k,fr:=m.fr,id:=if m.k=10 then 0 else m.id,t:=if m.k=1\/m.k=2\/m.k=3\/m.k=5\/m.k=7 then m.t else 0,bal:=if m.k=3\/m.k=4\/m.k=6\/m.k=7\/m.k=8 then m.bal else 0,abal:=if m.k=7 then m.abal else 0,ph:=if m.k=7 then m.ph else 0,
   q:=if m.k=1\/m.k=3\/m.k=5\/m.k=6\/m.k=9 then m.q else 0,pay:=if m.k=1\/m.k=3\/m.k=5\/m.k=6\/m.k=9 then m.pay else ⟨#[]⟩,lo:=if m.k=10 then m.lo else 0,hi:=if m.k=10 then m.hi else 0,
   aA:=if m.k=10 then m.aA else none,aC:=if m.k=10 then m.aC else 0,ats:=if m.k=10 then m.ats else #[],mA:=if m.k=10 then m.mA else none,mC:=if m.k=10 then m.mC else 0,mks:=if m.k=10 then m.mks else #[],dn:=if m.k=10 then m.dn else 0 }
theorem bare_any (m:PM) (w:World) (d:1<=m.k) (f:m.k<=10) :
 Calls prog 141 #[msgV m] w fun e g=>e=.returned (msgV (qhr m))/\Below w.heap.size w g:=by
 have:m.k=1\/m.k=2\/m.k=3\/m.k=4\/m.k=5\/m.k=6\/m.k=7\/m.k=8\/m.k=9\/m.k=10:=by omega
 obtain ⟨V,b⟩:∃ V,Hid (msgV (qhr m)=V):=⟨_,rfl⟩
 rw [b.out];rcases this with a | a | a | a | a | a | a | a | a | a
 all_goals
  as_aux_lemma =>
   have c:=hI a;unfold msgV;rw [a];clear a d f
   go_in
   go_wp2
   try (go_region;all_goals go_wp2)
   all_goals
    go_returns;refine ⟨?_,?_⟩
    .rw [<-b.out];unfold msgV qhr;simp [c.out]
    first
    | exact qab (qab (bel1 w _) _) _
    | exact (qab (qab (bel1 w _) _) _).drew
