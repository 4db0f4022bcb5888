/- Texts that the law leans on. -/
import Derived.BigRegion
import Derived.Handy
import Derived.Test.YtlkmagmdhopcjaaGreatMRowA
namespace Go.Proofs.YtlkmagmdhopcjaaGreat
open Go.RowKit Go.Sort Go.Lib
def qia (m:PM):PM :=
 { k:=m.k,fr:=m.fr,id:=if m.k=10 then 0 else m.id,t:=if m.k=1∨m.k=2∨m.k=3∨m.k=5∨m.k=7 then m.t else 0,bal:=if m.k=3∨m.k=4∨m.k=6∨m.k=7∨m.k=8 then m.bal else 0,abal:=if m.k=7 then m.abal else 0,ph:=if m.k=7 then m.ph else 0,
   q:=if m.k=1∨m.k=3∨m.k=5∨m.k=6∨m.k=9 then m.q else 0,pay:=if m.k=1∨m.k=3∨m.k=5∨m.k=6∨m.k=9 then m.pay else ⟨#[]⟩,lo:=if m.k=10 then m.lo else 0,hi:=if m.k=10 then m.hi else 0,
   aA:=if m.k=10 then m.aA else none,aC:=if m.k=10 then m.aC else 0,ats:=if m.k=10 then m.ats else #[],mA:=if m.k=10 then m.mA else none,mC:=if m.k=10 then m.mC else 0,mks:=if m.k=10 then m.mks else #[],dn:=if m.k=10 then m.dn else 0 }
set_option maxRecDepth 100000 in
set_option maxHeartbeats 40000000 in
theorem bare_any (m:PM) (w:World) (h1:1≤m.k) (h2:m.k≤10) :
 Calls Tryz.prog 141 #[msgV m] w fun e w'=>e=.returned (msgV (qia m))∧Below w.heap.size w w':=by
 have:m.k=1∨m.k=2∨m.k=3∨m.k=4∨m.k=5∨m.k=6∨m.k=7∨m.k=8∨m.k=9∨m.k=10:=by omega
 obtain ⟨V,HV⟩:∃ V,Hid (msgV (qia m)=V):=⟨_,rfl⟩
 rw [HV.out]
 rcases this with hk | hk | hk | hk | hk | hk | hk | hk | hk | hk
 all_goals
  as_aux_lemma =>
   have HK:=hI hk
   unfold msgV
   rw [hk]
   clear hk h1 h2
   go_in
   go_wp2
   try (go_region;all_goals go_wp2)
   all_goals
    go_returns
    refine ⟨?_,?_⟩
    ·rw [←HV.out];unfold msgV qia;simp [HK.out]
    ·first
     | exact qab (qab (bel1 w _) _) _
     | exact (qab (qab (bel1 w _) _) _).drew
end Go.Proofs.YtlkmagmdhopcjaaGreat
