/- Texts that the law leans on. -/
import Derived.Test.YtlkmagmdhopcjaaGreatMStPu
import Derived.Test.YtlkmagmdhopcjaaGreatMAgeB
import Derived.Test.YtlkmagmdhopcjaaGreatMTbP
import Derived.Test.YtlkmagmdhopcjaaGreatMGoP
import Derived.Test.YtlkmagmdhopcjaaGreatMDelN
import Derived.Test.YtlkmagmdhopcjaaGreatMStV
import Derived.Test.YtlkmagmdhopcjaaGreatMAnyE
import Derived.Deep.AppendLies
import Derived.Deep.CutRange
import Derived.Deep.CutBlock
import Derived.Deep.Fields
import Derived.Lib.SmallJoins
import Derived.Deep.RegionHeld3
import Derived.Test.YtlkmagmdhopcjaaGreatMDelA
import Derived.Test.YtlkmagmdhopcjaaGreatMSortK
import Derived.Test.YtlkmagmdhopcjaaGreatMLaw
import Derived.Test.YtlkmagmdhopcjaaGreatMBase
import Derived.Test.YtlkmagmdhopcjaaGreatMIdentB
import Derived.Test.YtlkmagmdhopcjaaGreatMOpenK
import Derived.Test.YtlkmagmdhopcjaaGreatMStG
namespace Go.Proofs.YtlkmagmdhopcjaaGreat
open Go.RowKit Go.Sort Go.Lib
set_option maxRecDepth 100000
def ansK (self:Int) (e:EN):AK:=⟨3,self,e.bal,e.t,e.abal,e.ph⟩
theorem qrt {fn:Func} {t:Tmp} (hf:fn.results=#[.cell t 176]) {tm:Array Value} {W:World} {g:Nat} {cs:Array Value} {T:TypeId} (hg:tm.getD t undef=.pointer (some ⟨g,0,none⟩)) (h:W.heap[g]?=some (.cells cs T (0,0))) (hc:cs.size=6):(results fn tm).run Tryz.prog W=.ok (.agg cs) W:=by
 have hg2:tm[t]?.getD undef=.pointer (some ⟨g,0,none⟩):=by rw [←Array.getD_eq_getD_getElem?];exact hg
 have hl:(loadVar 176 ⟨g,0,none⟩).run Tryz.prog W=.ok (.agg cs) W:=run_loadVar_row W g T 176 cs (0,0) _ h Tryz.underlying176 rfl (by rw [hc];kernel_rfl)
 simp [results,hf,hg2,asAddr,hl]
set_option maxHeartbeats 4000000 in
theorem qtw (self:Int) (e:EN) (w:World):Calls Tryz.prog 135 #[.int .i64 self,.agg (encE e).toArray] w fun x w'=>x=.returned (.agg (encK (ansK self e)).toArray)∧Below w.heap.size w w':=by
 obtain ⟨cc,hcc⟩:∃ cc,(encK (ansK self e)).toArray=cc:=⟨_,rfl⟩
 have HCC:Hid (cc=#[.int .i64 3,.int .i64 self,.int .i64 e.bal,.int .i64 e.t,.int .i64 e.abal,.int .i64 e.ph]):=hcc.symm
 rw [hcc]
 clear hcc
 simp only [encE]
 go_enter Tryz.func135,Tryz.ntmps135
 go_wp2
 exact bodyPost_ret (qrt rfl rfl (heap_alloc2_new w _ _) rfl) rfl ⟨by rw [HCC.out],qab (bel1 w _) _⟩
attribute [local go_sem ↓] qak qai qdk qed
attribute [local go_sem] qao qaj qah qaq qbd qgz qho qhp
theorem BoxG.rowTo {w W:World} {g g2:Nat} {cs c:Array Value} {t:TypeId} (h:BoxG w g cs t W) (hne:g≠g2) (hg:w.heap.size≤g2):BoxG w g cs t (W.setRow g2 c):=⟨qbk h.b hg _,(setRow_other _ _ g _ hne).trans h.row⟩
theorem BoxG.rowOn {w W:World} {g:Nat} {cs c:Array Value} {t:TypeId} (h:BoxG w g cs t W) (hg:w.heap.size≤g):BoxG w g c t (W.setRow g c):=⟨qbk h.b hg _,setRow_heap _ _ _ _ _ _ h.row⟩
theorem BoxG.newB {w W:World} (hb:Below w.heap.size w W) (cs:Array Value) (t:TypeId):BoxG w W.heap.size cs t (W.alloc (.cells cs t)):=⟨qab hb _,heap_alloc_new W _⟩
theorem qfn {fn:Func} {t u v:Tmp} (hf:fn.results=#[.cell t 35,.cell u 58,.tmp v]) {tm:Array Value} {W:World} {g q:Nat} {cs ce:Array Value} {T T':TypeId} (hg:tm.getD t undef=.pointer (some ⟨g,0,none⟩)) (hq:tm.getD u undef=.pointer (some ⟨q,0,none⟩)) (h:W.heap[g]?=some (.cells cs T (0,0))) (hc:cs.size=18) (h2:W.heap[q]?=some (.cells ce T' (0,0))) (hc2:ce.size=10):(results fn tm).run Tryz.prog W=.ok (.tuple #[.agg cs,.agg ce,tm.getD v undef]) W:=by
 have hg2:tm[t]?.getD undef=.pointer (some ⟨g,0,none⟩):=by rw [←Array.getD_eq_getD_getElem?];exact hg
 have hq2:tm[u]?.getD undef=.pointer (some ⟨q,0,none⟩):=by rw [←Array.getD_eq_getD_getElem?];exact hq
 have hl:(loadVar 58 ⟨q,0,none⟩).run Tryz.prog W=.ok (.agg ce) W:=run_loadVar_row W q T' 58 ce (0,0) _ h2 Tryz.underlying58 rfl (by rw [hc2];kernel_rfl)
 simp [results,hf,hg2,hq2,asAddr,qfo h hc,hl]
structure PmW (w:World) (cs ce:Array Value) (W:World):Prop where
 x:BoxG w w.heap.size cs 35 W
 e:BoxG w (w.heap.size + 1) ce 58 W
 o:BoxG w (w.heap.size + 1 + 1) qbp 35 W
 p:BoxG w (w.heap.size + 1 + 1 + 1) zE 58 W
section
variable {w W W':World} {cs ce:Array Value}
theorem PmW.b (h:PmW w cs ce W):Below w.heap.size w W:=h.x.b
theorem PmW.next (h:PmW w cs ce W) (hb:Below W.heap.size W W'):PmW w cs ce W':=⟨h.x.next hb,h.e.next hb,h.o.next hb,h.p.next hb⟩
theorem PmW.rowTo (h:PmW w cs ce W) {g:Nat} (hg:w.heap.size + 1 + 1 + 1 < g) (c:Array Value):PmW w cs ce (W.setRow g c):=⟨h.x.rowTo (by omega) (by omega),h.e.rowTo (by omega) (by omega),h.o.rowTo (by omega) (by omega),h.p.rowTo (by omega) (by omega)⟩
theorem PmW.bx (h:PmW w cs ce W) (hs:cs.size=18):qap W w.heap.size 18=true:=h.x.box hs
theorem PmW.rx (h:PmW w cs ce W):rowAt W w.heap.size=cs:=h.x.rowAt
theorem PmW.be (h:PmW w cs ce W) (hs:ce.size=10):qap W (w.heap.size + 1) 10=true:=h.e.box hs
theorem PmW.re (h:PmW w cs ce W):rowAt W (w.heap.size + 1)=ce:=h.e.rowAt
end
theorem pmW_init (w:World) (cs ce:Array Value):PmW w cs ce ((((w.alloc (.cells cs 35)).alloc (.cells ce 58)).alloc (.cells qbp 35)).alloc (.cells zE 58)):=by
 have hb:Below ((((w.alloc (.cells cs 35)).alloc (.cells ce 58)).alloc (.cells qbp 35))).heap.size _ ((((w.alloc (.cells cs 35)).alloc (.cells ce 58)).alloc (.cells qbp 35)).alloc (.cells zE 58)):=bel1 _ _
 refine ⟨(BoxG.t1 w cs ce qbp _ _ _).next hb,(BoxG.t2 w cs ce qbp _ _ _).next hb,(BoxG.t3 w cs ce qbp _ _ _).next hb,⟨((BoxG.t1 w cs ce qbp _ _ _).next hb).b,?_⟩⟩
 have:=heap_alloc_new (((w.alloc (.cells cs 35)).alloc (.cells ce 58)).alloc (.cells qbp 35)) (.cells zE 58)
 simpa using this
def RprR (r:RP) (e:EN) (ballot:Int) (s:RP) (p:EN) (ok:Bool):Prop :=
 ok=false∧s=r∧p=e∨ok=true∧∃ (r1:RP) (t:Int),(qkn e=false∧r1=r∧t=0∨qkn e=true∧qot r e.id 0 r1 t 0)∧p=prB e ballot t∧putK r1 p=0∧s={ r1 with e:=s.e }∧s.e.z=putD r1.e.z p
def RprO (r:RP) (e:EN) (ballot:Int) (w:World) (x:Ending) (w':World):Prop :=
 (∃ (s:RP) (p:EN) (ok:Bool),x=.returned (.tuple #[.agg (encP s).toArray,.agg (encE p).toArray,.bool ok])∧RprR r e ballot s p ok∧SepR r w.heap.size w' s)∧Below w.heap.size w w'
theorem prB_nil (e:EN) (b t:Int):(prB e b t).A=none∧(prB e b t).z=#[]∧(prB e b t).c=0∧(prB e b t).pay=e.pay:=by
 refine ⟨rfl,rfl,rfl,?_⟩
 unfold prB clrE qkm
 split
 ·split <;> rfl
 ·rfl
theorem qpw (e:EN) (b t:Int) (W:World) (h:e.pay.size≤1000):RdE W (prB e b t):=by
 obtain ⟨h1,h2,h3,h4⟩:=prB_nil e b t
 refine ⟨?_,?_,?_,by rw [h4];exact h⟩
 ·rw [h1,h2];exact fun h=>absurd h (by decide)
 ·rw [h2,h3];exact Nat.le_refl _
 ·rw [h2];exact Nat.zero_le _
theorem qtx {r:RP} {e:EN} {y:RW EN} {B:Nat} {w1:World} (hy:y.z=putD r.e.z e) (hr:RdK encE 10 w1.heap.size w1 y.A y.z) (hf:FreshA B y.A) (he:∀ W,RdP W r→(∀ j,B≤j→j < w1.heap.size→W.heap[j]?=w1.heap[j]?)→w1.heap.size≤W.heap.size→RdE0 W e):SepR r B w1 { r with e:=y }:=fun W hP ho hs=>by
 refine ⟨⟨hr.sepG hf ho hs,fun i hi=>?_⟩,hP.o,hP.k,hP.kk,hP.m,hP.mm,hP.fr,hP.d,hP.dd,hP.it,hP.ss⟩
 have hi':i < y.z.size:=hi
 have hm:y.z[i]! ∈ (putD r.e.z e).toList:=by rw [←hy];exact qen _ hi'
 rcases qlh _ hm with h1 | h1
 ·obtain ⟨j,hj,hx⟩:=qgb h1
  show RdE0 W y.z[i]!
  rw [←hx]
  exact hP.e.el j hj
 ·show RdE0 W y.z[i]!
  rw [h1]
  exact he W hP ho hs
theorem qvw {r s:RP} {id t:Int} (hf:FewC r) (ho:r.o.z.size≤999) (h:qot r id 0 s t 0):FewC s:=by
 obtain ⟨_,h1,h2⟩:=h.2.2 rfl
 rw [h1]
 exact ⟨hf.es,hf.ee,by show s.o.z.size≤1000;rw [h2,Array.size_push];omega,hf.k,hf.m,hf.mm,hf.fr,hf.d,hf.dd,hf.kk⟩
theorem vt_time {r s:RP} {id t:Int} (hc:0≤r.clock) (h:qot r id 0 s t 0):vtB t=true:=by
 obtain ⟨h0,_,_⟩:=h.2.2 rfl
 have h1:=h.1
 unfold clkX at h1
 split at h1
 ·cases h1
 ·split at h1
  ·cases h1
  ·exact decide_eq_true (by omega)
set_option maxHeartbeats 16000000 in
theorem qru (r:RP) (e:EN) (ballot:Int) (w:World) (h:RdP w r) (he:RdE w e) (hf:FewC r) (ho9:r.o.z.size≤999) (hc:chkR r=true) (hce:qcp e=true) (hse:qee e.ph=false) (hv:vtB ballot=true) (hbl:e.bal < ballot) (hid:10≤e.id∧e.id≤999999∧e.id % 10≠0) :
 Calls Tryz.prog 132 #[.agg (encP r).toArray,.agg (encE e).toArray,.int .i64 ballot] w fun x w'=>RprO r e ballot w x w':=by
 have HC:Hid (∀ W,Below w.heap.size w W→Calls Tryz.prog 15 #[.agg (encP r).toArray] W fun e w'=>e=.returned (.int .i64 0)∧Below W.heap.size W w'):=fun W hb=>by
  have:=qbh r W (h.below hb) hf
  rwa [qcw hc] at this
 have HK:Hid (∀ W,Below w.heap.size w W→Calls Tryz.prog 190 #[.agg (encE e).toArray] W fun x w'=>x=.returned (.int .i64 0)∧Below W.heap.size W w'):=fun W hb=>by
  have:=qfe e W (he.below hb) he.cz
  rwa [show enE e=0 by unfold enE;rw [if_pos hce]] at this
 have HN:Hid (∀ W,Below w.heap.size w W→Calls Tryz.prog 195 #[.agg (encE e).toArray] W fun x w'=>x=.returned (.bool (qkn e))∧Below W.heap.size W w'):=fun W hb=>qnk e W (he.below hb) he.cz
 have HT:Hid (∀ W,Below w.heap.size w W→Calls Tryz.prog 196 #[.agg (encP r).toArray,.int .i64 e.id,.int .i64 0] W fun x w'=>(∃ (s:RP) (c:Array Value) (t X:Int) (ok:Bool),x=.returned (.tuple #[.agg c,.int .i64 t,.bool ok])∧c=(encP s).toArray∧ok=(X == 0)∧qot r e.id 0 s t X∧SepR r W.heap.size w' s)∧Below W.heap.size W w'):=fun W hb =>
  (oTime_any r e.id 0 W (h.below hb) hf hc hid ⟨Int.le_refl _,by decide⟩).mono fun x w' ⟨⟨s,t,X,h1,h2,h3⟩,h4⟩=>⟨⟨s,_,t,X,_,h1,rfl,rfl,h2,h3⟩,h4⟩
 have HV:Hid (∀ t,(qkn e=true→vtB t=true)→∀ W,Below w.heap.size w W→Calls Tryz.prog 197 #[.agg (encE e).toArray,.int .i64 ballot,.int .i64 t] W fun x w'=>(∃ cp:Array Value,x=.returned (.tuple #[.agg cp,.int .i64 0])∧cp=(encE (prB e ballot t)).toArray)∧Below W.heap.size W w'):=fun t ht W hb =>
  (quj e ballot t W (he.below hb) he.cz hce hv ht hse hbl).mono fun x w' ⟨h1,h2⟩=>⟨⟨_,h1,rfl⟩,h2⟩
 have HPU:Hid (∀ (s:RP) (c1:Array Value) (p:EN) (cp:Array Value),c1=(encP s).toArray→cp=(encE p).toArray→FewC s→∀ W,RdP W s→RdE W p→Calls Tryz.prog 136 #[.agg c1,.agg cp] W fun x w'=>(∃ (y:RW EN) (c2:Array Value) (K:Int),x=.returned (.tuple #[.agg c2,.int .i64 K])∧c2=(encP { s with e:=y }).toArray∧K=putK s p∧(K=0→y.z=putD s.e.z p∧RdK encE 10 w'.heap.size w' y.A y.z∧FreshA W.heap.size y.A))∧Below W.heap.size W w'):=fun s c1 p cp h1 h2 hf W hs hp=>by
  rw [h1,h2]
  exact (qsj s p W hs hp hf).mono fun x w' ⟨⟨y,a1,a2,a3⟩,a4⟩=>⟨⟨y,_,_,a1,rfl,rfl,a3⟩,a4⟩
 have HRD:=hI h
 have HFC:=hI hf
 have HO9:=hI ho9
 have HPZ:Hid (e.pay.size≤1000):=he.pz
 have HCK0:Hid (0≤r.clock):=((qir.1 (clk0 hc)).1).2.1
 obtain ⟨cs,hcs⟩:∃ cs,cs=(encP r).toArray:=⟨_,rfl⟩
 obtain ⟨hsz,hone⟩:=rowP hcs
 obtain ⟨ce,hceq⟩:∃ x,x=(encE e).toArray:=⟨_,rfl⟩
 have hs1:ce.size=10:=by rw [hceq];rfl
 have ho1:qbt ce=true:=by rw [hceq];exact qep e
 have HE0:Hid (ce[0]?=some (.int .i64 e.id)):=by show _=_;rw [hceq];rfl
 have HCS:=hI hcs
 have HCE:=hI hceq
 rw [←hcs] at HC HT ⊢
 rw [←hceq] at HK HN HV ⊢
 obtain ⟨N,hN⟩:∃ N,qkn e=N:=⟨_,rfl⟩
 rw [hN] at HN HV
 have HNN:=hI hN
 clear h he hf ho9 hc hce hse hv hbl hid hcs hceq hN
 go_enter Tryz.func132,Tryz.ntmps132
 go_upto_region 1 with fail
 have HB4:Hid (PmW w cs ce ((((w.alloc (.cells cs 35)).alloc (.cells ce 58)).alloc (.cells #[.int .i64 0,.int .i64 0,.int .i64 0,.int .i64 0,.int .i64 0,.int .i64 0,.int .i64 0,.slice none 0 0,.slice none 0 0,.slice none 0 0,.slice none 0 0,.slice none 0 0,.slice none 0 0,.int .i64 0,.int .i64 0,.int .i64 0,.slice none 0 0,.slice none 0 0] 35)).alloc (.cells #[.int .i64 0,.int .i64 0,.int .i64 0,.int .i64 0,.int .i64 0,.int .i64 0,.int .i64 0,.int .i64 0,.string ⟨#[]⟩,.slice none 0 0] 58))):=pmW_init w cs ce
 generalize (((w.alloc (.cells cs 35)).alloc (.cells ce 58)).alloc (.cells #[.int .i64 0,.int .i64 0,.int .i64 0,.int .i64 0,.int .i64 0,.int .i64 0,.int .i64 0,.slice none 0 0,.slice none 0 0,.slice none 0 0,.slice none 0 0,.slice none 0 0,.slice none 0 0,.int .i64 0,.int .i64 0,.int .i64 0,.slice none 0 0,.slice none 0 0] 35)).alloc (.cells #[.int .i64 0,.int .i64 0,.int .i64 0,.int .i64 0,.int .i64 0,.int .i64 0,.int .i64 0,.int .i64 0,.string ⟨#[]⟩,.slice none 0 0] 58)=w1 at HB4 ⊢
 obtain ⟨n,hn⟩:∃ n,w.heap.size=n:=⟨_,rfl⟩
 have HNW:=hI hn
 have x1:=HB4.out.bx hsz
 have x2:=HB4.out.rx
 have y1:=HB4.out.be hs1
 have y2:=HB4.out.re
 rw [hn] at x1 x2 y1 y2 ⊢
 go_upto_region 3 with (first
  | (go_at_call 15;refine (HC.out _ HB4.out.b).mono ?_;rintro _ w2 ⟨rfl,hb⟩;have HB5:=hI (HB4.out.next hb);clear hb x1 x2 y1 y2;have x1:=HB5.out.bx hsz;have x2:=HB5.out.rx;have y1:=HB5.out.be hs1;have y2:=HB5.out.re;rw [hn] at x1 x2 y1 y2)
  | (go_at_call 190;refine (HK.out _ HB5.out.b).mono ?_;rintro _ w3 ⟨rfl,hb⟩;have HB6:=hI (HB5.out.next hb);clear hb x1 x2 y1 y2;have x1:=HB6.out.bx hsz;have x2:=HB6.out.rx;have y1:=HB6.out.be hs1;have y2:=HB6.out.re;rw [hn] at x1 x2 y1 y2))
 go_upto_region 4 with fail
 have HB7:=hI (HB6.out.next (bel1 w3 (.cells cs 35)))
 have HQ7:=hI (BoxG.newB HB6.out.b cs 35)
 have hlq:n + 1 + 1 + 1 < w3.heap.size:=by rw [←hn];exact HB6.out.p.lt
 obtain ⟨q,hq⟩:∃ q,w3.heap.size=q:=⟨_,rfl⟩
 rw [hq] at HQ7 hlq ⊢
 generalize w3.alloc (.cells cs 35)=w4 at HB7 HQ7 ⊢
 clear hq x1 x2 y1 y2 HB6 HB5 HB4
 have x1:=HB7.out.bx hsz
 have x2:=HB7.out.rx
 have y1:=HB7.out.be hs1
 have y2:=HB7.out.re
 have i0:=HB7.out.e.at_ 0 HE0.out
 rw [HNW.out] at x1 x2 y1 y2 i0
 have hnw:=hn
 clear hn
 cases N
 ·have HTV:Hid (false=true→vtB 0=true):=fun h=>by cases h
  have HC1:=hI HCS.out
  have hsz1:=hsz
  have HF1:=hI HFC.out
  go_upto_region 9 with (go_at_call 195;refine (HN.out _ HB7.out.b).mono ?_;rintro _ w5 ⟨rfl,hb⟩;have HB8:=hI (HB7.out.next hb);have HQ8:=hI (HQ7.out.next hb);clear hb x1 x2 y1 y2 i0 ;have x1:=HB8.out.bx hsz;have x2:=HB8.out.rx;have y1:=HB8.out.be hs1;have y2:=HB8.out.re;have i0:=HB8.out.e.at_ 0 HE0.out;rw [HNW.out] at x1 x2 y1 y2 i0)
  have HS8:=hI (SepR.self r (q + 1) w5)
  have HV9:=hI (HV.out (0) (by first | exact HTV.out | exact fun _=>HTV.out rfl))
  go_upto_region 12 with (go_at_call 197;refine (HV9.out _ HB8.out.b).mono ?_;rintro _ w10 ⟨⟨cp,rfl,hcp⟩,hb⟩;have HBa:=hI (HB8.out.next hb);have HQa:=hI (HQ8.out.next hb);have HSa:=hI (HS8.out.below hb);have HCP:=hI hcp;have hp1:cp.size=10:=(by rw [hcp];rfl);have hp2:qbt cp=true:=(by rw [hcp];exact qep _);clear hb hcp x1 x2 y1 y2 i0)
  have HBb:=hI (HBa.out.next (bel1 w10 (.cells cp 58)))
  have HQb:=hI (HQa.out.next (bel1 w10 (.cells cp 58)))
  have HSb:=hI (HSa.out.below (bel1 w10 (.cells cp 58)))
  have HMb:=hI (BoxG.newB HBa.out.b cp 58)
  have hqm:q < w10.heap.size:=HQa.out.lt
  obtain ⟨m,hm⟩:∃ m,w10.heap.size=m:=⟨_,rfl⟩
  rw [hm] at HMb hqm ⊢
  generalize w10.alloc (.cells cp 58)=w11 at HBb HQb HSb HMb ⊢
  clear hm HBa HQa HSa
  have z1:=HQb.out.box hsz1
  have z2:=HQb.out.rowAt
  have m1:=HMb.out.box hp1
  have m2:=HMb.out.rowAt
  have HMB0:Hid (q + 1≤w11.heap.size):=by have:=HMb.out.lt;show _≤_;omega
  go_upto_region 13 with (go_at_call 136;refine (HPU.out _ _ _ cp HC1.out HCP.out HF1.out _ (HSb.out.rd (HRD.out.below HBb.out.b)) (qpw _ _ _ _ HPZ.out)).mono ?_;rintro _ w12 ⟨⟨y,c2,K,rfl,hc2,hK,hy⟩,hb⟩;have HBc:=hI (HBb.out.next hb);have HQc:=hI (HQb.out.next hb);have HMc:=hI (HMb.out.next hb);have HSc:=hI (HSb.out.below hb);have HBW:=hI hb;obtain ⟨hsz2,hone2⟩:=rowP hc2;have HC2:=hI hc2;have HK2:=hI hK;have HY:=hI hy;clear hb hc2 hK hy z1 z2 m1 m2;have z1:=HQc.out.box hsz1)
  have HBd:=hI (HBc.out.rowTo (g:=q) (by omega) c2)
  have HQd:=hI (HQc.out.rowOn (c:=c2) (by omega))
  have HMd:=hI (HMc.out.rowTo (g2:=q) (c:=c2) (by omega) (by omega))
  obtain ⟨w13,hw13⟩:∃ W,W=w12.setRow q c2:=⟨_,rfl⟩
  have HW:=hI hw13
  rw [←hw13] at HBd HQd HMd ⊢
  clear hw13 z1
  by_cases hK0:K=0
  ·subst hK0
   have HYA:=hI (HY.out rfl).1
   have HYB:=hI (HY.out rfl).2.1
   have HYC:=hI (HY.out rfl).2.2
   clear HY
   go_upto_region 15 with fail
   have HBA:=hI (HBd.out.next (Below.refl _ w13).drew)
   have HQA:=hI (HQd.out.next (Below.refl _ w13).drew)
   have HMA:=hI (HMd.out.next (Below.refl _ w13).drew)
   have HOA:=hI HBA.out.o
   have HPA:=hI HBA.out.p
   rw [hnw] at HOA HPA
   have fa0:qap w13.drew (q) 18=true:=HQA.out.box hsz2
   have fb0:rowAt w13.drew (q)=c2:=HQA.out.rowAt
   have fc0:qap w13.drew (m) 10=true:=HMA.out.box hp1
   have fd0:rowAt w13.drew (m)=cp:=HMA.out.rowAt
   have fs0:qap w13.drew (n + 1 + 1) 18=true:=HOA.out.box (n:=18) rfl
   have fu0:qap w13.drew (n + 1 + 1 + 1) 10=true:=HPA.out.box (n:=10) rfl
   have fa1:qap (w13.drew.setRow (n + 1 + 1) c2) (q) 18=true:=(HQA.out.rowTo (g2:=n + 1 + 1) (c:=c2) (by omega) (by omega)).box hsz2
   have fb1:rowAt (w13.drew.setRow (n + 1 + 1) c2) (q)=c2:=(HQA.out.rowTo (g2:=n + 1 + 1) (c:=c2) (by omega) (by omega)).rowAt
   have fc1:qap (w13.drew.setRow (n + 1 + 1) c2) (m) 10=true:=(HMA.out.rowTo (g2:=n + 1 + 1) (c:=c2) (by omega) (by omega)).box hp1
   have fd1:rowAt (w13.drew.setRow (n + 1 + 1) c2) (m)=cp:=(HMA.out.rowTo (g2:=n + 1 + 1) (c:=c2) (by omega) (by omega)).rowAt
   have fu1:qap (w13.drew.setRow (n + 1 + 1) c2) (n + 1 + 1 + 1) 10=true:=(HPA.out.rowTo (g2:=n + 1 + 1) (c:=c2) (by omega) (by omega)).box (n:=10) rfl
   have fa2:qap (w13.drew.setRow (n + 1 + 1 + 1) cp) (q) 18=true:=(HQA.out.rowTo (g2:=n + 1 + 1 + 1) (c:=cp) (by omega) (by omega)).box hsz2
   have fb2:rowAt (w13.drew.setRow (n + 1 + 1 + 1) cp) (q)=c2:=(HQA.out.rowTo (g2:=n + 1 + 1 + 1) (c:=cp) (by omega) (by omega)).rowAt
   have fc2:qap (w13.drew.setRow (n + 1 + 1 + 1) cp) (m) 10=true:=(HMA.out.rowTo (g2:=n + 1 + 1 + 1) (c:=cp) (by omega) (by omega)).box hp1
   have fd2:rowAt (w13.drew.setRow (n + 1 + 1 + 1) cp) (m)=cp:=(HMA.out.rowTo (g2:=n + 1 + 1 + 1) (c:=cp) (by omega) (by omega)).rowAt
   have fs2:qap (w13.drew.setRow (n + 1 + 1 + 1) cp) (n + 1 + 1) 18=true:=(HOA.out.rowTo (g2:=n + 1 + 1 + 1) (c:=cp) (by omega) (by omega)).box (n:=18) rfl
   go_region_law (first | fail)
   all_goals
    try go_wp2
    refine bodyPost_ret (qfn rfl rfl rfl (by first | exact ((HOA.out.rowOn (c:=c2) (by omega)).rowTo (g2:=n + 1 + 1 + 1) (c:=cp) (by omega) (by omega)).row | exact ((HOA.out.rowTo (g2:=n + 1 + 1 + 1) (c:=cp) (by omega) (by omega)).rowOn (c:=c2) (by omega)).row) hsz2 (by first | exact ((HPA.out.rowTo (g2:=n + 1 + 1) (c:=c2) (by omega) (by omega)).rowOn (c:=cp) (by omega)).row | exact ((HPA.out.rowOn (c:=cp) (by omega)).rowTo (g2:=n + 1 + 1) (c:=c2) (by omega) (by omega)).row) hp1) rfl ?_
    refine ⟨⟨{ r with e:=y },prB e ballot 0,true,by rw [HC2.out,HCP.out];rfl,Or.inr ⟨rfl,r,0,Or.inl ⟨HNN.out,rfl,rfl⟩,rfl,HK2.out.symm,rfl,HYA.out⟩,SepR.monoG (B:=q + 1) (SepR.congr (w1:=w12) ?_ (by simp [HW.out]) fun j hj=>?_) (by omega)⟩,by first | exact ((HOA.out.rowOn (c:=c2) (by omega)).rowTo (g2:=n + 1 + 1 + 1) (c:=cp) (by omega) (by omega)).b | exact ((HOA.out.rowTo (g2:=n + 1 + 1 + 1) (c:=cp) (by omega) (by omega)).rowOn (c:=c2) (by omega)).b⟩
    ·exact HSb.out.trans (qtx HYA.out HYB.out HYC.out (fun W _ _ _=>(qpw _ _ _ W HPZ.out).zero)) HBW.out HMB0.out
    ·refine (setRow_other _ _ j _ (by omega)).trans ((setRow_other _ _ j _ (by omega)).trans ?_)
     show w13.heap[j]?=_
     rw [HW.out]
     exact setRow_other _ _ j _ (by omega)
  ·have e4:(K != 0)=true:=bne_iff_ne.2 hK0
   go_upto_region 14 with fail
   have HBA:=hI (HBd.out.next (Below.refl _ w13).drew)
   have HQA:=hI HBA.out.x
   have HMA:=hI HBA.out.e
   have HOA:=hI HBA.out.o
   have HPA:=hI HBA.out.p
   rw [hnw] at HOA HPA HQA HMA
   have fa0:qap w13.drew (n) 18=true:=HQA.out.box hsz
   have fb0:rowAt w13.drew (n)=cs:=HQA.out.rowAt
   have fc0:qap w13.drew (n + 1) 10=true:=HMA.out.box hs1
   have fd0:rowAt w13.drew (n + 1)=ce:=HMA.out.rowAt
   have fs0:qap w13.drew (n + 1 + 1) 18=true:=HOA.out.box (n:=18) rfl
   have fu0:qap w13.drew (n + 1 + 1 + 1) 10=true:=HPA.out.box (n:=10) rfl
   have fa1:qap (w13.drew.setRow (n + 1 + 1) cs) (n) 18=true:=(HQA.out.rowTo (g2:=n + 1 + 1) (c:=cs) (by omega) (by omega)).box hsz
   have fb1:rowAt (w13.drew.setRow (n + 1 + 1) cs) (n)=cs:=(HQA.out.rowTo (g2:=n + 1 + 1) (c:=cs) (by omega) (by omega)).rowAt
   have fc1:qap (w13.drew.setRow (n + 1 + 1) cs) (n + 1) 10=true:=(HMA.out.rowTo (g2:=n + 1 + 1) (c:=cs) (by omega) (by omega)).box hs1
   have fd1:rowAt (w13.drew.setRow (n + 1 + 1) cs) (n + 1)=ce:=(HMA.out.rowTo (g2:=n + 1 + 1) (c:=cs) (by omega) (by omega)).rowAt
   have fu1:qap (w13.drew.setRow (n + 1 + 1) cs) (n + 1 + 1 + 1) 10=true:=(HPA.out.rowTo (g2:=n + 1 + 1) (c:=cs) (by omega) (by omega)).box (n:=10) rfl
   have fa2:qap (w13.drew.setRow (n + 1 + 1 + 1) ce) (n) 18=true:=(HQA.out.rowTo (g2:=n + 1 + 1 + 1) (c:=ce) (by omega) (by omega)).box hsz
   have fb2:rowAt (w13.drew.setRow (n + 1 + 1 + 1) ce) (n)=cs:=(HQA.out.rowTo (g2:=n + 1 + 1 + 1) (c:=ce) (by omega) (by omega)).rowAt
   have fc2:qap (w13.drew.setRow (n + 1 + 1 + 1) ce) (n + 1) 10=true:=(HMA.out.rowTo (g2:=n + 1 + 1 + 1) (c:=ce) (by omega) (by omega)).box hs1
   have fd2:rowAt (w13.drew.setRow (n + 1 + 1 + 1) ce) (n + 1)=ce:=(HMA.out.rowTo (g2:=n + 1 + 1 + 1) (c:=ce) (by omega) (by omega)).rowAt
   have fs2:qap (w13.drew.setRow (n + 1 + 1 + 1) ce) (n + 1 + 1) 18=true:=(HOA.out.rowTo (g2:=n + 1 + 1 + 1) (c:=ce) (by omega) (by omega)).box (n:=18) rfl
   go_region_law (first | fail)
   all_goals
    try go_wp2
    refine bodyPost_ret (qfn rfl rfl rfl (by first | exact ((HOA.out.rowOn (c:=cs) (by omega)).rowTo (g2:=n + 1 + 1 + 1) (c:=ce) (by omega) (by omega)).row | exact ((HOA.out.rowTo (g2:=n + 1 + 1 + 1) (c:=ce) (by omega) (by omega)).rowOn (c:=cs) (by omega)).row) hsz (by first | exact ((HPA.out.rowTo (g2:=n + 1 + 1) (c:=cs) (by omega) (by omega)).rowOn (c:=ce) (by omega)).row | exact ((HPA.out.rowOn (c:=ce) (by omega)).rowTo (g2:=n + 1 + 1) (c:=cs) (by omega) (by omega)).row) hs1) rfl ?_
    exact ⟨⟨r,e,false,by rw [HCS.out,HCE.out];rfl,Or.inl ⟨rfl,rfl,rfl⟩,SepR.self _ _ _⟩,by first | exact ((HOA.out.rowOn (c:=cs) (by omega)).rowTo (g2:=n + 1 + 1 + 1) (c:=ce) (by omega) (by omega)).b | exact ((HOA.out.rowTo (g2:=n + 1 + 1 + 1) (c:=ce) (by omega) (by omega)).rowOn (c:=cs) (by omega)).b⟩
 have HCT:Hid (∀ s1 t,qot r e.id 0 s1 t 0→FewC s1∧vtB t=true):=fun s1 t h=>⟨qvw HFC.out HO9.out h,vt_time HCK0.out h⟩
 go_upto_region 6 with (first
  | (go_at_call 195;refine (HN.out _ HB7.out.b).mono ?_;rintro _ w5 ⟨rfl,hb⟩;have HB8:=hI (HB7.out.next hb);have HQ8:=hI (HQ7.out.next hb);clear hb x1 x2 y1 y2 i0 ;have x1:=HB8.out.bx hsz;have x2:=HB8.out.rx;have y1:=HB8.out.be hs1;have y2:=HB8.out.re;have i0:=HB8.out.e.at_ 0 HE0.out;rw [HNW.out] at x1 x2 y1 y2 i0)
  | (go_at_call 196;refine (HT.out _ HB8.out.b).mono ?_;rintro _ w6 ⟨⟨s1,c1,t,X,ok,rfl,hc1,hok,htr,hsp⟩,hb⟩;have HB9:=hI (HB8.out.next hb);have HQ9:=hI (HQ8.out.next hb);have HS9:=hI (SepR.monoG (B':=q + 1) hsp HQ8.out.lt);obtain ⟨hsz1,hone1⟩:=rowP hc1;have HC1:=hI hc1;have HOK:=hI hok;have HTR:=hI htr;clear hb hc1 hok htr hsp x1 x2 y1 y2 i0))
 have HBt:=hI (HB9.out.next (bel1 w6 (.cells c1 35)))
 have HQt:=hI (HQ9.out.next (bel1 w6 (.cells c1 35)))
 have HSt:=hI (HS9.out.below (bel1 w6 (.cells c1 35)))
 have HTt:=hI (BoxG.newB HB9.out.b c1 35)
 have hqk:q < w6.heap.size:=HQ9.out.lt
 obtain ⟨k,hk⟩:∃ k,w6.heap.size=k:=⟨_,rfl⟩
 rw [hk] at HTt hqk ⊢
 generalize w6.alloc (.cells c1 35)=w7 at HBt HQt HSt HTt ⊢
 clear hk HB9 HQ9 HS9 HB8 HQ8 HB7 HQ7
 cases ok
 ·go_upto_region 7 with fail
  have HBA:=hI (HBt.out.next (Below.refl _ w7).drew)
  have HQA:=hI HBA.out.x
  have HMA:=hI HBA.out.e
  have HOA:=hI HBA.out.o
  have HPA:=hI HBA.out.p
  rw [hnw] at HOA HPA HQA HMA
  have fa0:qap w7.drew (n) 18=true:=HQA.out.box hsz
  have fb0:rowAt w7.drew (n)=cs:=HQA.out.rowAt
  have fc0:qap w7.drew (n + 1) 10=true:=HMA.out.box hs1
  have fd0:rowAt w7.drew (n + 1)=ce:=HMA.out.rowAt
  have fs0:qap w7.drew (n + 1 + 1) 18=true:=HOA.out.box (n:=18) rfl
  have fu0:qap w7.drew (n + 1 + 1 + 1) 10=true:=HPA.out.box (n:=10) rfl
  have fa1:qap (w7.drew.setRow (n + 1 + 1) cs) (n) 18=true:=(HQA.out.rowTo (g2:=n + 1 + 1) (c:=cs) (by omega) (by omega)).box hsz
  have fb1:rowAt (w7.drew.setRow (n + 1 + 1) cs) (n)=cs:=(HQA.out.rowTo (g2:=n + 1 + 1) (c:=cs) (by omega) (by omega)).rowAt
  have fc1:qap (w7.drew.setRow (n + 1 + 1) cs) (n + 1) 10=true:=(HMA.out.rowTo (g2:=n + 1 + 1) (c:=cs) (by omega) (by omega)).box hs1
  have fd1:rowAt (w7.drew.setRow (n + 1 + 1) cs) (n + 1)=ce:=(HMA.out.rowTo (g2:=n + 1 + 1) (c:=cs) (by omega) (by omega)).rowAt
  have fu1:qap (w7.drew.setRow (n + 1 + 1) cs) (n + 1 + 1 + 1) 10=true:=(HPA.out.rowTo (g2:=n + 1 + 1) (c:=cs) (by omega) (by omega)).box (n:=10) rfl
  have fa2:qap (w7.drew.setRow (n + 1 + 1 + 1) ce) (n) 18=true:=(HQA.out.rowTo (g2:=n + 1 + 1 + 1) (c:=ce) (by omega) (by omega)).box hsz
  have fb2:rowAt (w7.drew.setRow (n + 1 + 1 + 1) ce) (n)=cs:=(HQA.out.rowTo (g2:=n + 1 + 1 + 1) (c:=ce) (by omega) (by omega)).rowAt
  have fc2:qap (w7.drew.setRow (n + 1 + 1 + 1) ce) (n + 1) 10=true:=(HMA.out.rowTo (g2:=n + 1 + 1 + 1) (c:=ce) (by omega) (by omega)).box hs1
  have fd2:rowAt (w7.drew.setRow (n + 1 + 1 + 1) ce) (n + 1)=ce:=(HMA.out.rowTo (g2:=n + 1 + 1 + 1) (c:=ce) (by omega) (by omega)).rowAt
  have fs2:qap (w7.drew.setRow (n + 1 + 1 + 1) ce) (n + 1 + 1) 18=true:=(HOA.out.rowTo (g2:=n + 1 + 1 + 1) (c:=ce) (by omega) (by omega)).box (n:=18) rfl
  go_region_law (first | fail)
  all_goals
   try go_wp2
   refine bodyPost_ret (qfn rfl rfl rfl (by first | exact ((HOA.out.rowOn (c:=cs) (by omega)).rowTo (g2:=n + 1 + 1 + 1) (c:=ce) (by omega) (by omega)).row | exact ((HOA.out.rowTo (g2:=n + 1 + 1 + 1) (c:=ce) (by omega) (by omega)).rowOn (c:=cs) (by omega)).row) hsz (by first | exact ((HPA.out.rowTo (g2:=n + 1 + 1) (c:=cs) (by omega) (by omega)).rowOn (c:=ce) (by omega)).row | exact ((HPA.out.rowOn (c:=ce) (by omega)).rowTo (g2:=n + 1 + 1) (c:=cs) (by omega) (by omega)).row) hs1) rfl ?_
   exact ⟨⟨r,e,false,by rw [HCS.out,HCE.out];rfl,Or.inl ⟨rfl,rfl,rfl⟩,SepR.self _ _ _⟩,by first | exact ((HOA.out.rowOn (c:=cs) (by omega)).rowTo (g2:=n + 1 + 1 + 1) (c:=ce) (by omega) (by omega)).b | exact ((HOA.out.rowTo (g2:=n + 1 + 1 + 1) (c:=ce) (by omega) (by omega)).rowOn (c:=cs) (by omega)).b⟩
 obtain rfl:X=0:=by have:=HOK.out;simpa using this.symm
 have HF1:=hI (HCT.out s1 t HTR.out).1
 have HTV:Hid (true=true→vtB t=true):=fun _=>(HCT.out s1 t HTR.out).2
 have k1:=HTt.out.box hsz1
 have k2:=HTt.out.rowAt
 have k3:=HQt.out.box hsz
 go_upto_region 9 with fail
 have HB10:=hI (HBt.out.rowTo (g:=q) (by omega) c1)
 have HQ10:=hI (HQt.out.rowOn (c:=c1) (by omega))
 have HS10:=hI (SepR.congr (w2:=w7.setRow q c1) HSt.out (by simp) (fun j hj=>setRow_other _ _ j _ (by omega)))
 generalize w7.setRow q c1=w8 at HB10 HQ10 HS10 ⊢
 clear k1 k2 k3
 have x1:=HB10.out.bx hsz
 have x2:=HB10.out.rx
 have y1:=HB10.out.be hs1
 have y2:=HB10.out.re
 have i0:=HB10.out.e.at_ 0 HE0.out
 rw [HNW.out] at x1 x2 y1 y2 i0
 have HV9:=hI (HV.out (t) (by first | exact HTV.out | exact fun _=>HTV.out rfl))
 go_upto_region 12 with (go_at_call 197;refine (HV9.out _ HB10.out.b).mono ?_;rintro _ w10 ⟨⟨cp,rfl,hcp⟩,hb⟩;have HBa:=hI (HB10.out.next hb);have HQa:=hI (HQ10.out.next hb);have HSa:=hI (HS10.out.below hb);have HCP:=hI hcp;have hp1:cp.size=10:=(by rw [hcp];rfl);have hp2:qbt cp=true:=(by rw [hcp];exact qep _);clear hb hcp x1 x2 y1 y2 i0)
 have HBb:=hI (HBa.out.next (bel1 w10 (.cells cp 58)))
 have HQb:=hI (HQa.out.next (bel1 w10 (.cells cp 58)))
 have HSb:=hI (HSa.out.below (bel1 w10 (.cells cp 58)))
 have HMb:=hI (BoxG.newB HBa.out.b cp 58)
 have hqm:q < w10.heap.size:=HQa.out.lt
 obtain ⟨m,hm⟩:∃ m,w10.heap.size=m:=⟨_,rfl⟩
 rw [hm] at HMb hqm ⊢
 generalize w10.alloc (.cells cp 58)=w11 at HBb HQb HSb HMb ⊢
 clear hm HBa HQa HSa
 have z1:=HQb.out.box hsz1
 have z2:=HQb.out.rowAt
 have m1:=HMb.out.box hp1
 have m2:=HMb.out.rowAt
 have HMB0:Hid (q + 1≤w11.heap.size):=by have:=HMb.out.lt;show _≤_;omega
 go_upto_region 13 with (go_at_call 136;refine (HPU.out _ _ _ cp HC1.out HCP.out HF1.out _ (HSb.out.rd (HRD.out.below HBb.out.b)) (qpw _ _ _ _ HPZ.out)).mono ?_;rintro _ w12 ⟨⟨y,c2,K,rfl,hc2,hK,hy⟩,hb⟩;have HBc:=hI (HBb.out.next hb);have HQc:=hI (HQb.out.next hb);have HMc:=hI (HMb.out.next hb);have HSc:=hI (HSb.out.below hb);have HBW:=hI hb;obtain ⟨hsz2,hone2⟩:=rowP hc2;have HC2:=hI hc2;have HK2:=hI hK;have HY:=hI hy;clear hb hc2 hK hy z1 z2 m1 m2;have z1:=HQc.out.box hsz1)
 have HBd:=hI (HBc.out.rowTo (g:=q) (by omega) c2)
 have HQd:=hI (HQc.out.rowOn (c:=c2) (by omega))
 have HMd:=hI (HMc.out.rowTo (g2:=q) (c:=c2) (by omega) (by omega))
 obtain ⟨w13,hw13⟩:∃ W,W=w12.setRow q c2:=⟨_,rfl⟩
 have HW:=hI hw13
 rw [←hw13] at HBd HQd HMd ⊢
 clear hw13 z1
 by_cases hK0:K=0
 ·subst hK0
  have HYA:=hI (HY.out rfl).1
  have HYB:=hI (HY.out rfl).2.1
  have HYC:=hI (HY.out rfl).2.2
  clear HY
  go_upto_region 15 with fail
  have HBA:=hI (HBd.out.next (Below.refl _ w13).drew)
  have HQA:=hI (HQd.out.next (Below.refl _ w13).drew)
  have HMA:=hI (HMd.out.next (Below.refl _ w13).drew)
  have HOA:=hI HBA.out.o
  have HPA:=hI HBA.out.p
  rw [hnw] at HOA HPA
  have fa0:qap w13.drew (q) 18=true:=HQA.out.box hsz2
  have fb0:rowAt w13.drew (q)=c2:=HQA.out.rowAt
  have fc0:qap w13.drew (m) 10=true:=HMA.out.box hp1
  have fd0:rowAt w13.drew (m)=cp:=HMA.out.rowAt
  have fs0:qap w13.drew (n + 1 + 1) 18=true:=HOA.out.box (n:=18) rfl
  have fu0:qap w13.drew (n + 1 + 1 + 1) 10=true:=HPA.out.box (n:=10) rfl
  have fa1:qap (w13.drew.setRow (n + 1 + 1) c2) (q) 18=true:=(HQA.out.rowTo (g2:=n + 1 + 1) (c:=c2) (by omega) (by omega)).box hsz2
  have fb1:rowAt (w13.drew.setRow (n + 1 + 1) c2) (q)=c2:=(HQA.out.rowTo (g2:=n + 1 + 1) (c:=c2) (by omega) (by omega)).rowAt
  have fc1:qap (w13.drew.setRow (n + 1 + 1) c2) (m) 10=true:=(HMA.out.rowTo (g2:=n + 1 + 1) (c:=c2) (by omega) (by omega)).box hp1
  have fd1:rowAt (w13.drew.setRow (n + 1 + 1) c2) (m)=cp:=(HMA.out.rowTo (g2:=n + 1 + 1) (c:=c2) (by omega) (by omega)).rowAt
  have fu1:qap (w13.drew.setRow (n + 1 + 1) c2) (n + 1 + 1 + 1) 10=true:=(HPA.out.rowTo (g2:=n + 1 + 1) (c:=c2) (by omega) (by omega)).box (n:=10) rfl
  have fa2:qap (w13.drew.setRow (n + 1 + 1 + 1) cp) (q) 18=true:=(HQA.out.rowTo (g2:=n + 1 + 1 + 1) (c:=cp) (by omega) (by omega)).box hsz2
  have fb2:rowAt (w13.drew.setRow (n + 1 + 1 + 1) cp) (q)=c2:=(HQA.out.rowTo (g2:=n + 1 + 1 + 1) (c:=cp) (by omega) (by omega)).rowAt
  have fc2:qap (w13.drew.setRow (n + 1 + 1 + 1) cp) (m) 10=true:=(HMA.out.rowTo (g2:=n + 1 + 1 + 1) (c:=cp) (by omega) (by omega)).box hp1
  have fd2:rowAt (w13.drew.setRow (n + 1 + 1 + 1) cp) (m)=cp:=(HMA.out.rowTo (g2:=n + 1 + 1 + 1) (c:=cp) (by omega) (by omega)).rowAt
  have fs2:qap (w13.drew.setRow (n + 1 + 1 + 1) cp) (n + 1 + 1) 18=true:=(HOA.out.rowTo (g2:=n + 1 + 1 + 1) (c:=cp) (by omega) (by omega)).box (n:=18) rfl
  go_region_law (first | fail)
  all_goals
   try go_wp2
   refine bodyPost_ret (qfn rfl rfl rfl (by first | exact ((HOA.out.rowOn (c:=c2) (by omega)).rowTo (g2:=n + 1 + 1 + 1) (c:=cp) (by omega) (by omega)).row | exact ((HOA.out.rowTo (g2:=n + 1 + 1 + 1) (c:=cp) (by omega) (by omega)).rowOn (c:=c2) (by omega)).row) hsz2 (by first | exact ((HPA.out.rowTo (g2:=n + 1 + 1) (c:=c2) (by omega) (by omega)).rowOn (c:=cp) (by omega)).row | exact ((HPA.out.rowOn (c:=cp) (by omega)).rowTo (g2:=n + 1 + 1) (c:=c2) (by omega) (by omega)).row) hp1) rfl ?_
   refine ⟨⟨{ s1 with e:=y },prB e ballot t,true,by rw [HC2.out,HCP.out];rfl,Or.inr ⟨rfl,s1,t,Or.inr ⟨HNN.out,HTR.out⟩,rfl,HK2.out.symm,rfl,HYA.out⟩,SepR.monoG (B:=q + 1) (SepR.congr (w1:=w12) ?_ (by simp [HW.out]) fun j hj=>?_) (by omega)⟩,by first | exact ((HOA.out.rowOn (c:=c2) (by omega)).rowTo (g2:=n + 1 + 1 + 1) (c:=cp) (by omega) (by omega)).b | exact ((HOA.out.rowTo (g2:=n + 1 + 1 + 1) (c:=cp) (by omega) (by omega)).rowOn (c:=c2) (by omega)).b⟩
   ·exact HSb.out.trans (qtx HYA.out HYB.out HYC.out (fun W _ _ _=>(qpw _ _ _ W HPZ.out).zero)) HBW.out HMB0.out
   ·refine (setRow_other _ _ j _ (by omega)).trans ((setRow_other _ _ j _ (by omega)).trans ?_)
    show w13.heap[j]?=_
    rw [HW.out]
    exact setRow_other _ _ j _ (by omega)
 ·have e4:(K != 0)=true:=bne_iff_ne.2 hK0
  go_upto_region 14 with fail
  have HBA:=hI (HBd.out.next (Below.refl _ w13).drew)
  have HQA:=hI HBA.out.x
  have HMA:=hI HBA.out.e
  have HOA:=hI HBA.out.o
  have HPA:=hI HBA.out.p
  rw [hnw] at HOA HPA HQA HMA
  have fa0:qap w13.drew (n) 18=true:=HQA.out.box hsz
  have fb0:rowAt w13.drew (n)=cs:=HQA.out.rowAt
  have fc0:qap w13.drew (n + 1) 10=true:=HMA.out.box hs1
  have fd0:rowAt w13.drew (n + 1)=ce:=HMA.out.rowAt
  have fs0:qap w13.drew (n + 1 + 1) 18=true:=HOA.out.box (n:=18) rfl
  have fu0:qap w13.drew (n + 1 + 1 + 1) 10=true:=HPA.out.box (n:=10) rfl
  have fa1:qap (w13.drew.setRow (n + 1 + 1) cs) (n) 18=true:=(HQA.out.rowTo (g2:=n + 1 + 1) (c:=cs) (by omega) (by omega)).box hsz
  have fb1:rowAt (w13.drew.setRow (n + 1 + 1) cs) (n)=cs:=(HQA.out.rowTo (g2:=n + 1 + 1) (c:=cs) (by omega) (by omega)).rowAt
  have fc1:qap (w13.drew.setRow (n + 1 + 1) cs) (n + 1) 10=true:=(HMA.out.rowTo (g2:=n + 1 + 1) (c:=cs) (by omega) (by omega)).box hs1
  have fd1:rowAt (w13.drew.setRow (n + 1 + 1) cs) (n + 1)=ce:=(HMA.out.rowTo (g2:=n + 1 + 1) (c:=cs) (by omega) (by omega)).rowAt
  have fu1:qap (w13.drew.setRow (n + 1 + 1) cs) (n + 1 + 1 + 1) 10=true:=(HPA.out.rowTo (g2:=n + 1 + 1) (c:=cs) (by omega) (by omega)).box (n:=10) rfl
  have fa2:qap (w13.drew.setRow (n + 1 + 1 + 1) ce) (n) 18=true:=(HQA.out.rowTo (g2:=n + 1 + 1 + 1) (c:=ce) (by omega) (by omega)).box hsz
  have fb2:rowAt (w13.drew.setRow (n + 1 + 1 + 1) ce) (n)=cs:=(HQA.out.rowTo (g2:=n + 1 + 1 + 1) (c:=ce) (by omega) (by omega)).rowAt
  have fc2:qap (w13.drew.setRow (n + 1 + 1 + 1) ce) (n + 1) 10=true:=(HMA.out.rowTo (g2:=n + 1 + 1 + 1) (c:=ce) (by omega) (by omega)).box hs1
  have fd2:rowAt (w13.drew.setRow (n + 1 + 1 + 1) ce) (n + 1)=ce:=(HMA.out.rowTo (g2:=n + 1 + 1 + 1) (c:=ce) (by omega) (by omega)).rowAt
  have fs2:qap (w13.drew.setRow (n + 1 + 1 + 1) ce) (n + 1 + 1) 18=true:=(HOA.out.rowTo (g2:=n + 1 + 1 + 1) (c:=ce) (by omega) (by omega)).box (n:=18) rfl
  go_region_law (first | fail)
  all_goals
   try go_wp2
   refine bodyPost_ret (qfn rfl rfl rfl (by first | exact ((HOA.out.rowOn (c:=cs) (by omega)).rowTo (g2:=n + 1 + 1 + 1) (c:=ce) (by omega) (by omega)).row | exact ((HOA.out.rowTo (g2:=n + 1 + 1 + 1) (c:=ce) (by omega) (by omega)).rowOn (c:=cs) (by omega)).row) hsz (by first | exact ((HPA.out.rowTo (g2:=n + 1 + 1) (c:=cs) (by omega) (by omega)).rowOn (c:=ce) (by omega)).row | exact ((HPA.out.rowOn (c:=ce) (by omega)).rowTo (g2:=n + 1 + 1) (c:=cs) (by omega) (by omega)).row) hs1) rfl ?_
   exact ⟨⟨r,e,false,by rw [HCS.out,HCE.out];rfl,Or.inl ⟨rfl,rfl,rfl⟩,SepR.self _ _ _⟩,by first | exact ((HOA.out.rowOn (c:=cs) (by omega)).rowTo (g2:=n + 1 + 1 + 1) (c:=ce) (by omega) (by omega)).b | exact ((HOA.out.rowTo (g2:=n + 1 + 1 + 1) (c:=ce) (by omega) (by omega)).rowOn (c:=cs) (by omega)).b⟩
end Go.Proofs.YtlkmagmdhopcjaaGreat
namespace Go.Proofs.YtlkmagmdhopcjaaGreat
open Go.RowKit Go.Sort Go.Lib
def rescM (id ballot:Int) (q:EN):PM:={ k:=6,fr:=0,id:=id,t:=0,bal:=ballot,abal:=0,ph:=0,q:=q.qu,pay:=q.pay,lo:=0,hi:=0,aA:=none,aC:=0,ats:=#[],mA:=none,mC:=0,mks:=#[],dn:=0 }
structure RscE (t:RP) (id:Int) (e:EN) (ballot:Int):Prop where
 find:FindR t.e.z id (e,true)
 op:qit e.ph=true
 ok:qjv (max e.bal e.seen) t.self t.n=0
 b:ballot=qim (max e.bal e.seen) t.self t.n
def StP (t:RP) (id:Int) (s:RP) (l:List OU):Prop :=
 s=t∧l=[]∨∃ (e:EN) (ballot:Int) (s1:RP) (p q:EN),RscE t id e ballot∧RprR t e ballot s1 p true∧qqg p (ansK t.self p)=true∧q={ p with A:=q.A,c:=q.c,z:=p.z.push (ansK t.self p) }∧putK s1 q=0∧s={ s1 with e:=s.e }∧s.e.z=putD s1.e.z q∧l=allO s (rescM id ballot q)
theorem cand_up (m self n:Int) (h1:3≤n) (h2:n≤9):m + 1≤cand m self n:=by
 have:n=3∨n=4∨n=5∨n=6∨n=7∨n=8∨n=9:=by omega
 unfold cand ownS
 rcases this with rfl | rfl | rfl | rfl | rfl | rfl | rfl <;> omega
theorem next_good {b c self n:Int} (h:qjv (max b c) self n=0):vtB (qim (max b c) self n)=true∧b < qim (max b c) self n:=by
 unfold qjv at h
 unfold qim
 split at h
 ·cases h
 ·rename_i h1
  rw [if_neg h1]
  split at h
  ·cases h
  ·rename_i h2
   rw [if_neg h2]
   have h3:=cand_up (qnm (max b c) n) self n (by omega) (by omega)
   have h4:max b c≤qnm (max b c) n:=by unfold qnm;split <;> omega
   exact ⟨decide_eq_true (by omega),by omega⟩
theorem qjs {d:Array EN} {id:Int} {e:EN} (h:FindR d id (e,true)):∃ i,i < d.size∧d[i]! = e∧e.id=id:=by
 rcases h with ⟨k,hk,h1,h2,_⟩ | ⟨h1,_⟩
 ·injection h1 with h1 _
  exact ⟨k,hk,h1.symm,by rw [h1];exact h2⟩
 ·injection h1 with _ h1
  cases h1
theorem tab_at {d:Array EN} (h:chkT d=true) {i:Nat} (hi:i < d.size):qcp d[i]! = true:=by
 have:=(qct.1 h).2 i hi
 unfold atT at this
 simp only [Bool.and_eq_true] at this
 exact this.1
theorem en_head {e:EN} (h:qcp e=true):qsv e∧qpc e:=by
 unfold qcp at h
 simp only [Bool.and_eq_true,decide_eq_true_eq] at h
 exact ⟨h.1.1.1.1,h.1.1.1.2⟩
theorem qpx {r:RP} {e:EN} {y:RW EN} (hf:FewC r) (h:putK r e=0) (hy:y.z=putD r.e.z e) (h1:e.z.size≤1000) (h2:e.pay.size≤1000):chkR { r with e:=y }=true∧FewC { r with e:=y }:=by
 unfold putK at h
 split at h
 ·rename_i hc
  simp only [Bool.and_eq_true,decide_eq_true_eq] at hc
  split at h
  ·cases h
  ·have hm:∀ x ∈ y.z.toList,x ∈ r.e.z.toList∨x=e:=by rw [hy];exact qlh
   refine ⟨chk_e hc.1 y (by rw [hy];exact (put_ok h).2) fun x hx=>?_,⟨by show y.z.size≤1000;rw [hy];have:=qni r.e.z e;omega,fun i hi=>?_,hf.o,hf.k,hf.m,hf.mm,hf.fr,hf.d,hf.dd,hf.kk⟩⟩
   ·rcases hm x hx with h3 | h3
    ·exact qpd hc.1 x h3
    ·rw [h3];exact hc.2.2
   ·show y.z[i]!.z.size≤1000∧y.z[i]!.pay.size≤1000
    rcases hm _ (qen _ (show i < y.z.size from hi)) with h3 | h3
    ·obtain ⟨j,hj,h4⟩:=qgb h3
     rw [←h4]
     exact hf.ee j hj
    ·rw [h3];exact ⟨h1,h2⟩
 ·cases h
end Go.Proofs.YtlkmagmdhopcjaaGreat
namespace Go.Proofs.YtlkmagmdhopcjaaGreat
open Go.RowKit Go.Sort Go.Lib
set_option maxRecDepth 100000
attribute [local go_sem ↓] qak qai
attribute [local go_sem] qao qaj qah qaq qbd
theorem sep_drop {r:RP} {w W2 W3:World} {A:Option Addr} {c:Nat} {n:Int} (hrt:RdT W2 A (qeq n r.e.z)) (hf:∀ g off,A=some ⟨g,off,none⟩→w.heap.size + 2≤g) (hs:W3.heap.size=W2.heap.size) (ho:∀ j,w.heap.size + 2≤j→W3.heap[j]?=W2.heap[j]?):SepR r w.heap.size W3 { r with e:=⟨A,c,qeq n r.e.z⟩ }:=fun W' hr ha hz=>by
 refine ⟨⟨?_,fun i hi=>?_⟩,hr.o,hr.k,hr.kk,hr.m,hr.mm,hr.fr,hr.d,hr.dd,hr.it,hr.ss⟩
 ·exact RdK.apartN hrt.rd (fun _ g off e=>hf g off e) (fun j h1 h2=>(ha j (by omega) (by omega)).trans (ho j h1)) (by omega)
 ·obtain ⟨j,hj,e⟩:=quv hi
  show RdE0 W' (qeq n r.e.z)[i]!
  rw [e]
  exact hr.e.el j hj
theorem sep_front {r:RP} {x:RW Int} {w w2:World} {B:Nat} (ho:OwnJ B w2 x) (hB:w.heap.size + 2≤B):SepR r (w.heap.size + 2) (w2.setCell ⟨w.heap.size,11,none⟩ (.slice x.A x.z.size x.c)) { r with fr:=x }:=fun W' hr ha hz=>by
 have hj:=ho W' (fun j h1 h2=>(ha j (by omega) (by simpa using h2)).trans (heap_setCell_other w2 ⟨w.heap.size,11,none⟩ j _ (by simp;omega))) (by simpa using hz)
 exact ⟨hr.e,hr.o,hr.k,hr.kk,hr.m,hr.mm,hj,hr.d,hr.dd,hr.it,hr.ss⟩
theorem few_front {r:RP} {x:RW Int} (hf:FewC r) (h:x.z.size=r.fr.z.size):FewC { r with fr:=x }:=by
 refine ⟨hf.es,hf.ee,hf.o,hf.k,hf.m,hf.mm,?_,hf.d,hf.dd,hf.kk⟩
 show x.z.size≤1000
 rw [h]
 exact hf.fr
theorem dropL {f:FuncId} {r:RP} {W:World} {c0:Array Value} {R:RP→Prop} (h:∀ W,RdP W r→FewC r→Calls Tryz.prog f #[.agg (encP r).toArray] W fun e w'=>(∃ s:RP,e=.returned (.agg (encP s).toArray)∧R s∧SepR r W.heap.size w' s)∧Below W.heap.size W w') (hc:c0=(encP r).toArray) (hr:RdP W r) (hf:FewC r) :
 Calls Tryz.prog f #[.agg c0] W fun e w'=>(∃ (s:RP) (c:Array Value),e=.returned (.agg c)∧c=(encP s).toArray∧R s∧SepR r W.heap.size w' s)∧Below W.heap.size W w':=by
 rw [hc]
 exact (h W hr hf).mono fun e w' ⟨⟨s,a,b,c⟩,d⟩=>⟨⟨s,_,a,rfl,b,c⟩,d⟩
set_option maxHeartbeats 4000000 in
theorem qnr (A:Option Addr) (c n p:Nat) (d:Array Int) (t:Int) (w:World) (h:RdI_R w.heap.size w A d) (hd:qas d n=0) (hp:p < n) (ht:¬ (0≤t∧t≤1000000)) :
 Calls Tryz.prog 32 #[.slice A d.size c,.int .i64 n,.int .i64 ((p:Int) + 1),.int .i64 t] w fun e w'=>e=.returned (.tuple #[.slice none 0 0,.int .i64 2])∧Below w.heap.size w w':=by
 have hs:d.size=n:=by have:=(qat.1 hd).2.1;omega
 have hn9:=mostN_9 (qat.1 hd).1
 have HCM:Hid (Calls Tryz.prog 79 #[.slice A d.size c,.int .i64 n] w fun e w'=>e=.returned (.int .i64 0)∧Below w.heap.size w w'):=by
  have:=qfi A c d n _ w h (by omega)
  rwa [hd] at this
 have HAM:Hid (∀ W,Calls Tryz.prog 78 #[.int .i64 ((p:Int) + 1),.int .i64 n] W fun e w'=>e=.returned (.bool true)∧W=w'):=fun W=>by
  have:=qhn ((p:Int) + 1) n W
  rwa [decide_eq_true (by omega:1≤(p:Int) + 1∧(p:Int) + 1≤(n:Int))] at this
 clear h hd hs
 by_cases h0:t < 0
 ·have e1:decide (t < 0)=true:=decide_eq_true h0
  go_enter Tryz.func32,Tryz.ntmps32
  go_wp2_with (first
   | (go_at_call 79;refine HCM.out.mono ?_;rintro _ w1 ⟨rfl,hb1⟩;have HB1:=hI hb1;clear hb1)
   | (go_at_call 78;refine (HAM.out _).mono ?_;rintro _ _ ⟨rfl,rfl⟩))
  go_ret2
  exact ⟨rfl,HB1.out⟩
 ·have e1:decide (t < 0)=false:=decide_eq_false h0
  have e2:decide (1000000 < t)=true:=decide_eq_true (by omega)
  go_enter Tryz.func32,Tryz.ntmps32
  go_wp2_with (first
   | (go_at_call 79;refine HCM.out.mono ?_;rintro _ w1 ⟨rfl,hb1⟩;have HB1:=hI hb1;clear hb1)
   | (go_at_call 78;refine (HAM.out _).mono ?_;rintro _ _ ⟨rfl,rfl⟩))
  go_ret2
  exact ⟨rfl,HB1.out⟩
set_option maxHeartbeats 8000000 in
theorem qrv (r:RP) (w:World) (h:RdP w r) (hf:FewC r) :
 Calls Tryz.prog 34 #[.agg (encP r).toArray] w fun e w'=>(∃ s:RP,e=.returned (.agg (encP s).toArray)∧DropR r s∧SepR r w.heap.size w' s)∧Below w.heap.size w w':=by
 have HL:Hid (∀ W,Below w.heap.size w W→Calls Tryz.prog 84 #[.slice r.fr.A r.fr.z.size r.fr.c] W fun e w'=>e=.returned (.int .i64 (qeg r.fr.z))∧W=w'):=fun W hb=>qrs r.fr.A r.fr.c r.fr.z _ W (h.fr.below hb).rd (by have:=hf.fr;omega)
 have HD:Hid (∀ W,Below w.heap.size w W→Calls Tryz.prog 83 #[.slice r.e.A r.e.z.size r.e.c,.int .i64 (qeg r.fr.z)] W fun e w'=>(∃ A' c',e=.returned (.slice A' (qeq (qeg r.fr.z) r.e.z).size c')∧RdT w' A' (qeq (qeg r.fr.z) r.e.z)∧(∀ g off,A'=some ⟨g,off,none⟩→W.heap.size≤g))∧Below W.heap.size W w'):=fun W hb =>
  (qwu r.e.A r.e.c r.e.z (qeg r.fr.z) W ((h.below hb).tab hf)).mono fun e w' ⟨A',c',h1,h2,h3,h4⟩=>⟨⟨A',c',h1,h2,h3⟩,h4⟩
 obtain ⟨kz,hkz⟩:∃ kz,qeq (qeg r.fr.z) r.e.z=kz:=⟨_,rfl⟩
 have HKZ:=hI hkz
 rw [hkz] at HD
 obtain ⟨ll,hll⟩:∃ l,qeg r.fr.z=l:=⟨_,rfl⟩
 rw [hll] at HL HD
 have HLL:=hI hll
 obtain ⟨cs,hcs⟩:∃ cs,cs=(encP r).toArray:=⟨_,rfl⟩
 obtain ⟨hsz,hone⟩:=rowP hcs
 have HCS:=hI hcs
 have HQ7:Hid (cs[7]?=some (.slice r.e.A r.e.z.size r.e.c)):=by show _=_;rw [hcs];rfl
 have HQ11:Hid (cs[11]?=some (.slice r.fr.A r.fr.z.size r.fr.c)):=by show _=_;rw [hcs];rfl
 have hgoal:∀ x:Array Value,cs=x→Calls Tryz.prog 34 #[.agg x] w fun e w'=>(∃ s:RP,e=.returned (.agg (encP s).toArray)∧DropR r s∧SepR r w.heap.size w' s)∧Below w.heap.size w w':=by
  rintro _ rfl
  simp only [encP] at hcs
  clear h hf hkz hll
  rw [hcs]
  go_enter Tryz.func34,Tryz.ntmps34
  rw [←hcs]
  clear hcs
  have HX:=hI (BoxG.fst w cs qbp 35 35)
  have HZ:=hI (BoxG.snd w cs qbp 35 35)
  simp only [qbp] at HX HZ
  have KS:Hid (∀ W,BoxG w w.heap.size cs 35 W→W.cell? ⟨w.heap.size,7,none⟩=some (.slice r.e.A r.e.z.size r.e.c)∧W.cell? ⟨w.heap.size,11,none⟩=some (.slice r.fr.A r.fr.z.size r.fr.c)):=fun W hx=>⟨hx.at_ 7 HQ7.out,hx.at_ 11 HQ11.out⟩
  have x1:=HX.out.box hsz
  have x2:=HX.out.rowAt
  go_wp2_with fail
  refine qcz (S:=fun W=>W.cell? ⟨w.heap.size,7,none⟩=some (.slice r.e.A r.e.z.size r.e.c)∧W.cell? ⟨w.heap.size,11,none⟩=some (.slice r.fr.A r.fr.z.size r.fr.c)) (by kernel_rfl) ?_
  have HX1:=hI (HX.out.next (Below.refl _ _).drew)
  have HZ1:=hI (HZ.out.next (Below.refl _ _).drew)
  have hS:=KS.out _ HX1.out
  clear x1 x2
  refine tkF 3 0 rfl rfl hS ?_
  simp only [Act.put,sA,s0,s1]
  refine tkF 4 1 rfl rfl hS ?_
  simp only [Act.put,sA,s0,s1]
  refine tkF 5 2 rfl rfl hS ?_
  simp only [Act.put,sA,s0,s1]
  refine tkF 6 3 rfl rfl hS ?_
  simp only [Act.put,sA,s0,s1]
  refine rdy1 4 rfl (fun K hK=>?_)
  go_simp
  refine (HL.out _ HX1.out.b).mono ?_
  rintro _ _ ⟨rfl,rfl⟩
  refine hK.out _ _ hS (fun _=>?_)
  clear hK K
  refine rdy1 5 rfl (fun K hK=>?_)
  go_simp
  refine (HD.out _ HX1.out.b).mono ?_
  rintro _ w2 ⟨⟨A2,c2,rfl,hrt,hfar⟩,hb2⟩
  have HX2:=hI (HX1.out.next hb2)
  have HZ2:=hI (HZ1.out.next hb2)
  have HRT:=hI hrt
  have HFA:Hid (∀ g off,A2=some ⟨g,off,none⟩→w.heap.size + 2≤g):=hI (fun g off e=>by have:=hfar g off e;simpa using this)
  have hzl:=HZ2.out.lt
  refine hK.out _ _ (KS.out _ HX2.out) (fun _=>?_)
  clear hK K hrt hfar hb2 hS
  refine tkF 9 6 rfl rfl (KS.out _ HX2.out) ?_
  simp only [Act.put,sA,s0,s1]
  have c7:=HX2.out.at_ 7 HQ7.out
  have f7:=HX2.out.froz 7
  refine rdyL 7 rfl (fun K hK=>?_)
  go_simp
  refine hK.out _ _ ?_
  clear hK K c7 f7
  refine qca (by kernel_rfl) ?_ _
  have HX3:=hI (HX2.out.set (Nat.le_refl _) 7 (.slice A2 kz.size c2))
  have HZ3:=hI (HZ2.out.far (g2:=w.heap.size) (Nat.le_refl _) (by omega) 7 (.slice A2 kz.size c2))
  obtain ⟨cse,hcse⟩:∃ c,c=(encP { r with e:=⟨A2,c2,kz⟩ }).toArray:=⟨_,rfl⟩
  have hset:cs.setIfInBounds 7 (.slice A2 kz.size c2)=cse:=by rw [HCS.out,hcse];rfl
  rw [hset] at HX3
  obtain ⟨hszE,honeE⟩:=rowP hcse
  have HCE:=hI hcse
  have x1:=HX3.out.box hszE
  have x2:=HX3.out.rowAt
  have x3:=HZ3.out.box (n:=18) rfl
  clear hcse hset
  go_wp2
  refine bodyPost_ret (qds rfl rfl (setRow_heap _ _ _ _ _ _ HZ3.out.row) hszE) rfl ?_
  have hbW:Below w.heap.size w ((w2.setCell ⟨w.heap.size,7,none⟩ (.slice A2 kz.size c2)).setRow (w.heap.size + 1) cse):=HX3.out.b.trans ⟨rfl,rfl,rfl,by simp,fun j hj=>setRow_other _ _ j _ (by omega)⟩
  have hk:=HKZ.out
  subst hk
  exact ⟨⟨_,by rw [←HCE.out],⟨rfl,rfl⟩,sep_drop HRT.out HFA.out (by simp) (fun j hj=>(setRow_other _ _ j _ (by omega)).trans (heap_setCell_other w2 ⟨w.heap.size,7,none⟩ j _ (by simp;omega)))⟩,hbW⟩
 exact hgoal _ hcs
set_option maxHeartbeats 8000000 in
theorem qol (r:RP) (t:Int) (w:World) (h:RdP w r) (hf:FewC r) :
 Calls Tryz.prog 13 #[.agg (encP r).toArray,.int .i64 t] w fun e w'=>(∃ s:RP,e=.returned (.agg (encP s).toArray)∧FrontR r t s∧SepR r w.heap.size w' s)∧Below w.heap.size w w':=by
 have HC:Hid (∀ W,Below w.heap.size w W→Calls Tryz.prog 15 #[.agg (encP r).toArray] W fun e w'=>e=.returned (.int .i64 (repE r))∧Below W.heap.size W w'):=fun W hb=>qbh r W (h.below hb) hf
 have HRD:=hI h
 have HFC:=hI hf
 obtain ⟨cs,hcs⟩:∃ cs,cs=(encP r).toArray:=⟨_,rfl⟩
 obtain ⟨hsz,hone⟩:=rowP hcs
 have HCS:=hI hcs
 rw [←hcs] at HC
 have hgoal:∀ x:Array Value,cs=x→Calls Tryz.prog 13 #[.agg x,.int .i64 t] w fun e w'=>(∃ s:RP,e=.returned (.agg (encP s).toArray)∧FrontR r t s∧SepR r w.heap.size w' s)∧Below w.heap.size w w':=by
  rintro _ rfl
  simp only [encP] at hcs
  clear h hf
  by_cases hc:chkR r=true
  ·rw [qcw hc] at HC
   have hns:=qet hc
   have hkn:=qhk hc
   have hfr:=qip hc
   have hfz:=(qat.1 hfr).2.1
   have HCK:=hI hc
   obtain ⟨p,hp⟩:∃ p:Nat,r.self=(p:Int) + 1:=⟨r.self.toNat - 1,by omega⟩
   obtain ⟨n,hn⟩:∃ n:Nat,r.n=(n:Int):=⟨r.n.toNat,by omega⟩
   have hpn:p < n:=by omega
   rw [hn] at hfr
   have HQ0:Hid (cs[0]?=some (.int .i64 (n:Int))):=by show _=_;rw [HCS.out,←hn];rfl
   have HQ2:Hid (cs[2]?=some (.int .i64 ((p:Int) + 1))):=by show _=_;rw [HCS.out,←hp];rfl
   have HQ11:Hid (cs[11]?=some (.slice r.fr.A r.fr.z.size r.fr.c)):=by show _=_;rw [HCS.out];rfl
   have HP:=hI hp
   by_cases ht:0≤t∧t≤1000000
   ·have HF:Hid (∀ W,Below w.heap.size w W→Calls Tryz.prog 32 #[.slice r.fr.A r.fr.z.size r.fr.c,.int .i64 n,.int .i64 ((p:Int) + 1),.int .i64 t] W fun e w'=>(∃ x:RW Int,e=.returned (.tuple #[.slice x.A x.z.size x.c,.int .i64 0])∧x.z=qfu r.fr.z p t∧OwnJ W.heap.size w' x)∧Below W.heap.size W w'):=fun W hb=>qlw r.fr.A r.fr.c n p r.fr.z t W (HRD.out.fr.below hb).rd hfr hpn ht
    have HT:=hI ht
    clear hc hns hkn hfr hfz hp hn hpn ht
    rw [hcs]
    go_enter Tryz.func13,Tryz.ntmps13
    rw [←hcs]
    clear hcs
    have HX:=hI (BoxG.fst w cs qbp 35 35)
    have HZ:=hI (BoxG.snd w cs qbp 35 35)
    simp only [qbp] at HX HZ
    have x1:=HX.out.box hsz
    have x2:=HX.out.rowAt
    go_wp2_with (first
     | (go_at_call 15;refine (HC.out _ HX.out.b).mono ?_;rintro _ w1 ⟨rfl,hb⟩;have HX1:=hI (HX.out.next hb);have HZ1:=hI (HZ.out.next hb);have HZl:=HZ1.out.lt;clear hb x1 x2;have c0:=HX1.out.at_ 0 HQ0.out;have c2:=HX1.out.at_ 2 HQ2.out;have c11:=HX1.out.at_ 11 HQ11.out)
     | (go_at_call 32;refine (HF.out _ HX1.out.b).mono ?_;rintro _ w2 ⟨⟨x,rfl,hx,ho⟩,hb⟩;have HX2:=hI (HX1.out.next hb);have HZ2:=hI (HZ1.out.next hb);have HXX:=hI hx;have HOX:=hI ho;have HB12:=hI hb;clear hb hx ho c0 c2 c11;have c11:=HX2.out.at_ 11 HQ11.out;have f11:=HX2.out.froz 11;
        have HX3:=hI (HX2.out.set (Nat.le_refl _) 11 (.slice x.A x.z.size x.c));have HZ3:=hI (HZ2.out.far (g2:=w.heap.size) (Nat.le_refl _) (by have:=HZ1.out.lt;omega) 11 (.slice x.A x.z.size x.c));
        obtain ⟨cse,hcse⟩:∃ c,c=(encP { r with fr:=x }).toArray:=⟨_,rfl⟩;have hset:cs.setIfInBounds 11 (.slice x.A x.z.size x.c)=cse:=(by rw [HCS.out,hcse];rfl);rw [hset] at HX3;obtain ⟨hszE,honeE⟩:=rowP hcse;have HCE:=hI hcse;
        have HSX:Hid (SepR r (w.heap.size + 2) (w2.setCell ⟨w.heap.size,11,none⟩ (.slice x.A x.z.size x.c)) { r with fr:=x }):=hI (sep_front HOX.out (by omega));
        have hsz3:w.heap.size + 2≤(w2.setCell ⟨w.heap.size,11,none⟩ (.slice x.A x.z.size x.c)).heap.size:=(by have:=HZ3.out.lt;omega);
        have HFX:Hid (FewC { r with fr:=x }):=hI (few_front HFC.out (by rw [HXX.out,qdo]));
        have HDR:=hI (dropL (fun W a b=>qrv { r with fr:=x } W a b) HCE.out (HSX.out.rd (HRD.out.below HX3.out.b)) HFX.out);have x1:=HX3.out.box hszE;have x2:=HX3.out.rowAt;clear hset hcse)
     | (go_at_call 34;refine HDR.out.mono ?_;rintro _ w4 ⟨⟨s,csd,rfl,hcsd,hdr,hsep⟩,hb4⟩;obtain ⟨hszD,honeD⟩:=rowP hcsd;have HZ4:=hI (HZ3.out.next hb4);have HCD:=hI hcsd;have HSD:=hI (HSX.out.trans hsep hb4 hsz3);have HDD:=hI hdr;have HB4:=hI (qaa HX3.out.b hb4);have x3:=HZ4.out.box (n:=18) rfl;clear hcsd hdr hsep hb4 x1 x2))
    refine bodyPost_ret (qds rfl rfl (setRow_heap _ _ _ _ _ _ HZ4.out.row) hszD) rfl ?_
    have hbW:Below w.heap.size w (w4.setRow (w.heap.size + 1) csd):=HB4.out.trans ⟨rfl,rfl,rfl,by simp,fun j hj=>setRow_other _ _ j _ (by omega)⟩
    refine ⟨⟨s,by rw [←HCD.out],Or.inr ⟨⟨HCK.out,HT.out⟩,_,rfl,?_,HDD.out⟩,fun W' hr ha hz=>HSD.out W' hr (fun j h1 h2=>(ha j (by omega) (by simpa using h2)).trans (setRow_other _ _ j _ (by omega))) (by simpa using hz)⟩,hbW⟩
    show x.z=_
    rw [HXX.out,show r.self.toNat - 1=p by rw [HP.out];omega]
   ·have HF:Hid (∀ W,Below w.heap.size w W→Calls Tryz.prog 32 #[.slice r.fr.A r.fr.z.size r.fr.c,.int .i64 n,.int .i64 ((p:Int) + 1),.int .i64 t] W fun e w'=>e=.returned (.tuple #[.slice none 0 0,.int .i64 2])∧Below W.heap.size W w'):=fun W hb=>qnr r.fr.A r.fr.c n p r.fr.z t W (HRD.out.fr.below hb).rd hfr hpn ht
    have HT:=hI ht
    clear hc hns hkn hfr hfz hp hn hpn ht
    rw [hcs]
    go_enter Tryz.func13,Tryz.ntmps13
    rw [←hcs]
    clear hcs
    have HX:=hI (BoxG.fst w cs qbp 35 35)
    have HZ:=hI (BoxG.snd w cs qbp 35 35)
    simp only [qbp] at HX HZ
    have x1:=HX.out.box hsz
    have x2:=HX.out.rowAt
    go_wp2_with (first
     | (go_at_call 15;refine (HC.out _ HX.out.b).mono ?_;rintro _ w1 ⟨rfl,hb⟩;have HX1:=hI (HX.out.next hb);have HZ1:=hI (HZ.out.next hb);clear hb x1 x2;have c0:=HX1.out.at_ 0 HQ0.out;have c2:=HX1.out.at_ 2 HQ2.out;have c11:=HX1.out.at_ 11 HQ11.out)
     | (go_at_call 32;refine (HF.out _ HX1.out.b).mono ?_;rintro _ w2 ⟨rfl,hb⟩;have HX2:=hI (HX1.out.next hb);have HZ2:=hI (HZ1.out.next hb);clear hb c0 c2 c11;have x1:=HX2.out.box hsz;have x2:=HX2.out.rowAt;have x3:=HZ2.out.box (n:=18) rfl))
    refine bodyPost_ret (qds rfl rfl (setRow_heap _ _ _ _ _ _ HZ2.out.row) hsz) rfl ?_
    exact ⟨⟨r,by rw [←HCS.out],Or.inl ⟨fun h=>HT.out h.2,rfl⟩,SepR.self _ _ _⟩,HX2.out.b.trans ⟨rfl,rfl,rfl,by simp,fun j hj=>setRow_other _ _ j _ (by omega)⟩⟩
  ·rw [qhj hc] at HC
   have HCK:=hI hc
   clear hc
   rw [hcs]
   go_enter Tryz.func13,Tryz.ntmps13
   rw [←hcs]
   clear hcs
   have HX:=hI (BoxG.fst w cs qbp 35 35)
   have HZ:=hI (BoxG.snd w cs qbp 35 35)
   simp only [qbp] at HX HZ
   have x1:=HX.out.box hsz
   have x2:=HX.out.rowAt
   go_wp2_with (go_at_call 15;refine (HC.out _ HX.out.b).mono ?_;rintro _ w1 ⟨rfl,hb⟩;have HX1:=hI (HX.out.next hb);have HZ1:=hI (HZ.out.next hb);clear hb x1 x2;have x1:=HX1.out.box hsz;have x2:=HX1.out.rowAt;have x3:=HZ1.out.box (n:=18) rfl)
   refine bodyPost_ret (qds rfl rfl (setRow_heap _ _ _ _ _ _ HZ1.out.row) hsz) rfl ?_
   exact ⟨⟨r,by rw [←HCS.out],Or.inl ⟨fun h=>HCK.out h.1,rfl⟩,SepR.self _ _ _⟩,HX1.out.b.trans ⟨rfl,rfl,rfl,by simp,fun j hj=>setRow_other _ _ j _ (by omega)⟩⟩
 exact hgoal _ hcs
end Go.Proofs.YtlkmagmdhopcjaaGreat
namespace Go.Proofs.YtlkmagmdhopcjaaGreat
open Go.RowKit Go.Sort Go.Lib
set_option maxRecDepth 100000
structure KnB (w:World) (K cK:Nat) (ks:Array KE) (W:World):Prop where
 own:W.ownsRow (w.heap.size + 2) 66 3 (.slice (some ⟨K,0,none⟩) ks.size cK) ks.size (flatK qaz 3 ks).toList
 kk:∀ i,i < ks.size→RdKE W ks[i]!
 far:∀ i,i < ks.size→FarK w ks[i]!
section
variable {w W W':World} {r:RP} {K cK:Nat} {ks:Array KE}
theorem KnB.hK (h:KnB w K cK ks W):w.heap.size + 2≤K∧K < W.heap.size:=by
 obtain ⟨_,⟨e,_⟩ | ⟨g,_,_,e,hB,hh,_⟩⟩:=h.own
 ·cases e
 ·injection e with e1
  injection e1 with e1
  injection e1 with e1
  subst e1
  exact ⟨hB,(Array.getElem?_eq_some_iff.1 hh).1⟩
theorem KnB.next (h:KnB w K cK ks W) (hb:Below W.heap.size W W'):KnB w K cK ks W' :=
 ⟨qht h.own hb,fun i hi=>(h.kk i hi).below hb,h.far⟩
theorem KnB.rk (h:KnB w K cK ks W):RdW qaz 3 W ⟨some ⟨K,0,none⟩,cK,ks⟩:=by
 obtain ⟨x,e,hz,hr⟩:=qdq h.own
 have:x=⟨some ⟨K,0,none⟩,cK,ks⟩:=by
  obtain ⟨xA,xc,xz⟩:=x
  have hz':xz=ks:=hz
  subst hz'
  unfold RW.v at e
  injection e with q1 q2 q3
  subst q1 q3
  rfl
 rw [←this]
 exact hr
theorem KnB.cells (h:KnB w K cK ks W) {i:Nat} (hi:i < ks.size) (c:Nat) (hc:c < 3):W.cell? ⟨K,i * 3 + c,none⟩=some (qaz ks[i]!)[c]!:=by
 obtain ⟨b,off,e,_,f⟩:=h.rk.rd.at_ (i:=i) hi
 have e':some (⟨K,0,none⟩:Addr)=some ⟨b,off,none⟩:=e
 injection e' with e'
 injection e' with e1 e2
 subst e1 e2
 have:=f c hc
 rwa [Nat.zero_add] at this
theorem KnB.froz (h:KnB w K cK ks W) (j:Nat):W.frozen? ⟨K,j,none⟩=false:=h.own.frozenAt j
def put3 (W:World) (K i:Nat) (x:KE):World:=((W.setCell ⟨K,i * 3,none⟩ (.int .i64 x.base)).setCell ⟨K,i * 3 + 1,none⟩ (.slice x.r.A x.r.z.size x.r.c)).setCell ⟨K,i * 3 + 2,none⟩ (.slice x.a.A x.a.z.size x.a.c)
theorem qmt (W:World) (K i:Nat) (x:KE):(put3 W K i x).heap.size=W.heap.size:=by simp [put3]
theorem BoxG.put3 {g:Nat} {cs:Array Value} {t:TypeId} (h:BoxG w g cs t W) (hg:w.heap.size≤K) (hne:g≠K) (i:Nat) (x:KE):BoxG w g cs t (put3 W K i x) :=
 ((h.far (g2:=K) hg hne _ _).far (g2:=K) hg hne _ _).far (g2:=K) hg hne _ _
theorem KnB.put (h:KnB w K cK ks W) {i:Nat} (hi:i < ks.size) {x:KE} (hx:RdKE W x) (hfx:FarK w x):KnB w K cK (ks.setIfInBounds i x) (put3 W K i x):=by
 have hs:(ks.setIfInBounds i x).size=ks.size:=by simp
 have hcell:∀ b t,(b≠K∨t < i * 3∨i * 3 + 3≤t)→(Go.Proofs.YtlkmagmdhopcjaaGreat.put3 W K i x).cell? ⟨b,t,none⟩=W.cell? ⟨b,t,none⟩:=by
  intro b t hbt
  have far:∀ (V:World) (j:Nat) (v:Value),(⟨K,j,none⟩:Addr)≠⟨b,t,none⟩→(V.setCell ⟨K,j,none⟩ v).cell? ⟨b,t,none⟩=V.cell? ⟨b,t,none⟩:=fun V j v hne=>World.cell?_setCell_other V _ _ v hne
  unfold Go.Proofs.YtlkmagmdhopcjaaGreat.put3
  rw [far _ _ _ (by intro e;injection e with e1 e2;omega),far _ _ _ (by intro e;injection e with e1 e2;omega),far _ _ _ (by intro e;injection e with e1 e2;omega)]
 have hH:∀ t,t < ks.size * 3→W.cell? ⟨K,t,none⟩=some (flatK qaz 3 ks)[t]!:=fun t ht=>by
  have:=h.cells (i:=t / 3) (by omega) (t % 3) (Nat.mod_lt _ (by decide))
  rw [show t / 3 * 3 + t % 3=t by omega] at this
  rw [this,get_flatK _ _ _ _ ht]
 have hsz:=qmt W K i x
 have hke:∀ y:KE,RdKE W y→RdKE (Go.Proofs.YtlkmagmdhopcjaaGreat.put3 W K i x) y:=fun y hy =>
  ⟨⟨by rw [hsz];exact qfj qnb hH hy.r.rd hi hcell,hy.r.no⟩,⟨by rw [hsz];exact qfj qnc hH hy.a.rd hi hcell,hy.a.no⟩⟩
 refine ⟨?_,?_,fun j hj=>?_⟩
 ·rw [hs,qng ks i x hi]
  exact (((h.own.stored (i * 3) _).1.stored (i * 3 + 1) _).1.stored (i * 3 + 2) _).1
 ·intro j hj
  rw [hs] at hj
  by_cases hji:j=i
  ·subst hji
   rw [getElem!_set_same ks j x hi]
   exact hke x hx
  ·rw [show (ks.setIfInBounds i x)[j]! = ks[j]! by rw [getElem!_def,getElem!_def,Array.getElem?_setIfInBounds,if_neg (Ne.symm hji)]]
   exact hke _ (h.kk j hj)
 ·rw [hs] at hj
  by_cases hji:j=i
  ·subst hji
   rw [getElem!_set_same ks j x hi]
   exact hfx
  ·rw [show (ks.setIfInBounds i x)[j]! = ks[j]! by rw [getElem!_def,getElem!_def,Array.getElem?_setIfInBounds,if_neg (Ne.symm hji)]]
   exact h.far j hj
theorem KnB.oth (h:KnB w K cK ks W) {B s n:Nat} {e:TypeId} {v:Value} {xs:List Value} (ho:W.ownsRow B e s v n xs) (hne:(66 : TypeId)≠e) {W':World} (hg:W.grownBy W' (some K)):W'.ownsRow B e s v n xs :=
 qdy h.own ho hne hg
end
def OvP (r:RP) (kb:Array KE) (k:Nat) (O:List Int):Prop:=(∀ x,x ∈ O↔∃ i,i < k∧x ∈ kb[i]!.a.z.toList.map (·.2)∧overB r x=true)∧O.length≤k * 400
def OvI (r:RP) (kb:Array KE) (k:Nat) (s:Array Int) (j:Nat) (O:List Int):Prop:=(∀ x,x ∈ O↔(∃ i,i < k∧x ∈ kb[i]!.a.z.toList.map (·.2)∧overB r x=true)∨(x ∈ s.toList.take j∧overB r x=true))∧O.length≤k * 400 + j
theorem OvP.zero (r:RP) (kb:Array KE):OvP r kb 0 []:=⟨fun x=>by simp,by simp⟩
theorem OvP.enter {r:RP} {kb:Array KE} {k:Nat} {O:List Int} (h:OvP r kb k O) (s:Array Int):OvI r kb k s 0 O:=⟨fun x=>by rw [h.1];simp,Nat.le_trans h.2 (Nat.le_add_right _ _)⟩
theorem take_get (s:Array Int) {j:Nat} (hj:j < s.size):s.toList.take (j + 1)=s.toList.take j ++ [s[j]!]:=by
 rw [List.take_add_one,List.getElem?_eq_getElem (by simpa using hj),getElem!_pos s j hj]
 simp
theorem OvI.no {r:RP} {kb:Array KE} {k j:Nat} {s:Array Int} {O:List Int} (h:OvI r kb k s j O) (hj:j < s.size) (ho:overB r s[j]! = false):OvI r kb k s (j + 1) O:=by
 refine ⟨fun x=>?_,by have:=h.2;omega⟩
 rw [h.1,take_get s hj,List.mem_append,List.mem_singleton]
 constructor
 ·rintro (a | b)
  ·exact Or.inl a
  ·exact Or.inr ⟨Or.inl b.1,b.2⟩
 ·rintro (a | ⟨b | c,d⟩)
  ·exact Or.inl a
  ·exact Or.inr ⟨b,d⟩
  ·rw [c,ho] at d;cases d
end Go.Proofs.YtlkmagmdhopcjaaGreat
namespace Go.Proofs.YtlkmagmdhopcjaaGreat
open Go.RowKit Go.Sort Go.Lib
set_option maxRecDepth 100000
attribute [local go_sem ↓] qak qai
attribute [local go_sem] qao qaj qah qaq qbd
theorem FarK.newG {w:World} {x:KE} {B:Nat} (hB:w.heap.size + 2≤B) (h1:0 < x.r.z.size→∀ g off,x.r.A=some ⟨g,off,none⟩→B≤g) (h2:∀ g off,x.a.A=some ⟨g,off,none⟩→B≤g):FarK w x :=
 ⟨fun h0 g off e=>Or.inr (Nat.le_trans hB (h1 h0 g off e)),fun _ g off e=>Or.inr (Nat.le_trans hB (h2 g off e))⟩
theorem FarN.newG {w:World} {x:KE} {B:Nat} (hB:w.heap.size + 2≤B) (h1:0 < x.r.z.size→∀ g off,x.r.A=some ⟨g,off,none⟩→B≤g) (h2:∀ g off,x.a.A=some ⟨g,off,none⟩→B≤g):FarN w x :=
 ⟨fun h0 g off e=>Nat.le_trans hB (h1 h0 g off e),fun _ g off e=>Nat.le_trans hB (h2 g off e)⟩
end Go.Proofs.YtlkmagmdhopcjaaGreat
namespace Go.Proofs.YtlkmagmdhopcjaaGreat
open Go.RowKit Go.Sort Go.Lib
set_option maxRecDepth 100000
theorem marks_02 {d:Array Int} {n:Int} (h:qas d n≠0):qas d n=2:=by
 unfold qas at h ⊢
 split
 ·rfl
 ·rename_i h1;rw [if_neg h1] at h;exact absurd rfl h
set_option maxHeartbeats 4000000 in
theorem qpy (A:Option Addr) (c n p:Nat) (m:Array (RW Int)) (A2:Option Addr) (c2:Nat) (d2:Array Int) (w:World) (h:RdMM w ⟨A,c,m⟩) (hm:qfk m n=true) (hp:p < n) (h2:RdI_R w.heap.size w A2 d2) (hs:d2.size≤1000000) (hd:qas d2 n≠0) :
 Calls Tryz.prog 31 #[.slice A m.size c,.int .i64 n,.int .i64 ((p:Int) + 1),.slice A2 d2.size c2] w fun e w'=>e=.returned (.tuple #[.slice none 0 0,.int .i64 2])∧Below w.heap.size w w':=by
 obtain ⟨hn9,hmn,hrows⟩:=qbv.1 hm
 have hms:m.size=n:=by omega
 have hz:∀ i,i < m.size→m[i]!.z.size=n:=fun i hi=>by have:=(qat.1 (hrows i hi)).2.1;omega
 have HCK:Hid (Calls Tryz.prog 77 #[.slice A m.size c,.int .i64 n] w fun e w'=>e=.returned (.int .i64 0)∧Below w.heap.size w w'):=by
  have:=qgq A c m n w h.1.rd h.2 (by omega) (fun i hi=>by rw [hz i hi];omega)
  have e0:qfb m n=0:=by unfold qfb;rw [if_pos hm]
  rwa [e0] at this
 have HCM:Hid (∀ W,Below w.heap.size w W→Calls Tryz.prog 79 #[.slice A2 d2.size c2,.int .i64 n] W fun e w'=>e=.returned (.int .i64 2)∧Below W.heap.size W w'):=fun W hb=>by
  have:=qfi A2 c2 d2 n _ W (h2.below hb) (by omega)
  rwa [marks_02 hd] at this
 have HAM:Hid (∀ W,Calls Tryz.prog 78 #[.int .i64 ((p:Int) + 1),.int .i64 n] W fun e w'=>e=.returned (.bool true)∧W=w'):=fun W=>by
  have:=qhn ((p:Int) + 1) n W
  rwa [decide_eq_true (by omega:1≤(p:Int) + 1∧(p:Int) + 1≤(n:Int))] at this
 clear h hm h2 hs hd hmn hrows hms hz
 go_enter Tryz.func31,Tryz.ntmps31
 go_wp2_with (first
  | (go_at_call 77;refine HCK.out.mono ?_;rintro _ w1 ⟨rfl,hb1⟩;have HB1:=hI hb1;clear hb1)
  | (go_at_call 78;refine (HAM.out _).mono ?_;rintro _ _ ⟨rfl,rfl⟩)
  | (go_at_call 79;refine (HCM.out _ HB1.out).mono ?_;rintro _ w2 ⟨rfl,hb2⟩;have HB2:=hI (qaa HB1.out hb2);clear hb2))
 go_ret2
 exact ⟨rfl,HB2.out⟩
def NewK (B:Nat) (x:KE):Prop:=(0 < x.r.z.size→∀ g off,x.r.A=some ⟨g,off,none⟩→B≤g)∧(0 < x.a.z.size→∀ g off,x.a.A=some ⟨g,off,none⟩→B≤g)
theorem NewK.mono {B B':Nat} {x:KE} (h:NewK B x) (hb:B'≤B):NewK B' x:=⟨fun h0 g off e=>Nat.le_trans hb (h.1 h0 g off e),fun h0 g off e=>Nat.le_trans hb (h.2 h0 g off e)⟩
theorem NewK.rd {B:Nat} {W W':World} {x:KE} (h:NewK B x) (hx:RdKE W x) (ho:∀ j,B≤j→j < W.heap.size→W'.heap[j]?=W.heap[j]?) (hs:W.heap.size≤W'.heap.size):RdKE W' x :=
 ⟨⟨RdK.apartN hx.r.rd h.1 ho hs,hx.r.no⟩,⟨RdK.apartN hx.a.rd h.2 ho hs,hx.a.no⟩⟩
theorem OwnMM.sep {B B':Nat} {W W':World} {m:Array (RW Int)} {y:RW (RW Int)} (h:OwnMM B' W y) (hB:B≤B') (hs:W.heap.size≤W'.heap.size) (ho:∀ j,B'≤j→j < W.heap.size→W'.heap[j]?=W.heap[j]?):SepMM B W' m y:=fun V _ ha hz =>
 h V (fun j h1 h2=>(ha j (by omega) (by omega)).trans (ho j h1 h2)) (by omega)
theorem SepMM.next {B B':Nat} {W W':World} {m:Array (RW Int)} {y:RW (RW Int)} (h:SepMM B' W m y) (hB:B≤B') (hs:W.heap.size≤W'.heap.size) (ho:∀ j,B'≤j→j < W.heap.size→W'.heap[j]?=W.heap[j]?):SepMM B W' m y:=fun V hr ha hz =>
 h V hr (fun j h1 h2=>(ha j (by omega) (by omega)).trans (ho j h1 h2)) (by omega)
theorem OwnJ.next {B B':Nat} {W W':World} {x:RW Int} (h:OwnJ B' W x) (hB:B≤B') (hs:W.heap.size≤W'.heap.size) (ho:∀ j,B'≤j→j < W.heap.size→W'.heap[j]?=W.heap[j]?):OwnJ B W' x:=fun V ha hz =>
 h V (fun j h1 h2=>(ha j (by omega) (by omega)).trans (ho j h1 h2)) (by omega)
def rpP (r:RP) (p K cK:Nat) (x:KE) (y:RW (RW Int)) (f:RW Int):RP:={ r with k:=⟨some ⟨K,0,none⟩,cK,r.k.z.setIfInBounds p x⟩,m:=y,fr:=f }
theorem sep_prom {r:RP} {W2:World} {K cK p B:Nat} {x:KE} {y:RW (RW Int)} {f:RW Int} (hK:W2.ownsRow B 66 3 (.slice (some ⟨K,0,none⟩) r.k.z.size cK) r.k.z.size (flatK qaz 3 (r.k.z.setIfInBounds p x)).toList)
 (hx:RdKE W2 x) (hn:NewK B x) (hy:SepMM B W2 r.m.z y) (hf:OwnJ B W2 f):SepR r B W2 (rpP r p K cK x y f):=fun W hr ho hs=>by
 have hk:=qdz hK (Nat.le_refl _) ho
 have hsz:(r.k.z.setIfInBounds p x).size=r.k.z.size:=by simp
 have hk':W.ownsRow B 66 3 (.slice (some ⟨K,0,none⟩) r.k.z.size cK) (r.k.z.setIfInBounds p x).size (flatK qaz 3 (r.k.z.setIfInBounds p x)).toList:=by rw [hsz];exact hk
 have hm:=hy W hr.mm ho hs
 refine ⟨hr.e,hr.o,?_,fun i hi=>?_,hm.1,hm.2,hf W ho hs,hr.d,hr.dd,hr.it,hr.ss⟩
 ·obtain ⟨z,e,hz,hrk⟩:=qdq hk'
  obtain ⟨zA,zc,zz⟩:=z
  have hz':zz=r.k.z.setIfInBounds p x:=hz
  subst hz'
  unfold RW.v at e
  injection e with q1 q2 q3
  subst q1 q3
  exact hrk
 ·have hi':i < (r.k.z.setIfInBounds p x).size:=hi
  rw [hsz] at hi'
  show RdKE W (r.k.z.setIfInBounds p x)[i]!
  by_cases hip:i=p
  ·subst hip
   rw [getElem!_set_same _ i x hi']
   exact hn.rd hx ho hs
  ·rw [show (r.k.z.setIfInBounds p x)[i]! = r.k.z[i]! by rw [getElem!_def,getElem!_def,Array.getElem?_setIfInBounds,if_neg (Ne.symm hip)]]
   exact hr.kk i hi'
theorem prom_of {r:RP} {m:PM} {p K cK:Nat} {x:KE} {y:RW (RW Int)} {f:RW Int} (ho:OkPr r m p) (hx:AddR r.k.z[p]!.kn m.lo m.hi m.ats x.kn) (hxs:x.r.z.size≤r.k.z[p]!.r.z.size + r.k.z[p]!.a.z.size + m.ats.size + 1) (hy:qyx r.m.z p (qda r.m.z[p]!.z m.mks) y.z) (hf:f.z=qfu r.fr.z p m.dn):PromR r m (rpP r p K cK x y f):=by
 have hfr:=ho.fr
 have hpk:=ho.pk
 refine ⟨rfl,by show (r.k.z.setIfInBounds p x).size=_;simp,fun i hi=>?_,hy.1,fun i hi=>?_,by show f.z=_;rw [hf,show m.fr.toNat - 1=p by omega]⟩
 ·show if (i:Int) + 1=m.fr then AddR r.k.z[i]!.kn m.lo m.hi m.ats (r.k.z.setIfInBounds p x)[i]!.kn∧(r.k.z.setIfInBounds p x)[i]!.r.z.size≤r.k.z[i]!.r.z.size + r.k.z[i]!.a.z.size + m.ats.size + 1 else (r.k.z.setIfInBounds p x)[i]!.kn=r.k.z[i]!.kn
  by_cases hip:i=p
  ·subst hip
   rw [if_pos hfr.symm,getElem!_set_same _ i x hi]
   exact ⟨hx,hxs⟩
  ·rw [if_neg (by omega),show (r.k.z.setIfInBounds p x)[i]! = r.k.z[i]! by rw [getElem!_def,getElem!_def,Array.getElem?_setIfInBounds,if_neg (Ne.symm hip)]]
 ·show y.z[i]!.z=_
  rw [hy.2 i hi]
  by_cases hip:i=p
  ·subst hip
   rw [if_pos rfl,if_pos hfr.symm]
  ·rw [if_neg hip,if_neg (by omega)]
structure HeP (r:RP) (m:PM) (p n:Nat):Prop where
 c:chkR r=true
 fr:m.fr=(p:Int) + 1
 nn:r.n=(n:Int)
 pn:p < n
 ns:m.fr≠r.self
 ats:m.ats.size≤200
 mks:m.mks.size≤1000000
 dn:0≤m.dn∧m.dn≤1000000
theorem heP {r:RP} {m:PM} {w:World} (h:qft r m=true) (hk:m.k=10) (hm:RdM w m):∃ p n,HeP r m p n:=by
 unfold qft at h
 simp only [Bool.and_eq_true,decide_eq_true_eq] at h
 obtain ⟨⟨hc,h0⟩,h1,h2,_,_⟩:=h
 obtain ⟨hp,f1,f2⟩:=chkM_10 h0 hk
 unfold proB at hp
 simp only [Bool.and_eq_true,decide_eq_true_eq] at hp
 have hns:=qet hc
 exact ⟨m.fr.toNat - 1,r.n.toNat,hc,by omega,by omega,by omega,h2,hp.1.2.2,hm.sm,by omega⟩
theorem HeP.ok {r:RP} {m:PM} {p n:Nat} (h:HeP r m p n) (hh:qft r m=true) (hk:m.k=10):okPr r m=(addB r.k.z[p]!.kn m.lo m.hi m.ats && decide (qas m.mks r.n=0)):=by
 unfold okPr
 rw [decide_eq_true hk,hh,show m.fr.toNat - 1=p by have:=h.fr;omega]
 rfl
theorem HeP.okp {r:RP} {m:PM} {p n:Nat} (h:HeP r m p n) (ha:addB r.k.z[p]!.kn m.lo m.hi m.ats=true) (hx:qas m.mks r.n=0):OkPr r m p :=
 ⟨h.c,h.fr,by have:=qhk h.c;have:=h.nn;have:=h.pn;omega,h.ns,qmb.1 ha,h.ats,hx,h.dn⟩
structure AddO (r:RP) (m:PM) (p B:Nat) (x:KE) (w':World):Prop where
 a:AddR r.k.z[p]!.kn m.lo m.hi m.ats x.kn
 s:x.r.z.size≤r.k.z[p]!.r.z.size + r.k.z[p]!.a.z.size + m.ats.size + 1
 n:NewK B x
 rd:RdKE w' x
theorem pAddX {r:RP} {m:PM} {p n:Nat} {w:World} (h:RdP w r) (hf:FewP r) (hm:RdM w m) (hh:HeP r m p n) :
 Calls Tryz.prog 30 #[.agg (qaz r.k.z[p]!).toArray,.int .i64 m.lo,.int .i64 m.hi,.slice m.aA m.ats.size m.aC] w fun e w'=>(∃ x:KE,e=.returned (.tuple #[.agg (qaz x).toArray,.int .i64 (if addB r.k.z[p]!.kn m.lo m.hi m.ats then 0 else 2)])∧(addB r.k.z[p]!.kn m.lo m.hi m.ats=true→AddO r m p w.heap.size x w'))∧Below w.heap.size w w':=by
 have hpk:p < r.k.z.size:=by have:=qhk hh.c;have:=hh.nn;have:=hh.pn;omega
 have hku:=h.kk p hpk
 have h2:=hf.kk' hpk
 have h3:=hh.ats
 cases ha:addB r.k.z[p]!.kn m.lo m.hi m.ats
 ·refine (kAdd_bad r.k.z[p]!.base r.k.z[p]!.r.z r.k.z[p]!.a.z r.k.z[p]!.r.A r.k.z[p]!.r.c r.k.z[p]!.a.A r.k.z[p]!.a.c m.lo m.hi m.ats m.aA m.aC w hku.r.rd hku.a.rd hm.ra (by omega) ha).mono ?_
  rintro e w' ⟨rfl,hb⟩
  exact ⟨⟨⟨0,⟨none,0,#[]⟩,⟨none,0,#[]⟩⟩,rfl,fun h=>by cases h⟩,hb⟩
 ·have hAA:=qmb.1 ha
  refine (quz r.k.z[p]!.base r.k.z[p]!.r.z r.k.z[p]!.a.z r.k.z[p]!.r.A r.k.z[p]!.r.c r.k.z[p]!.a.A r.k.z[p]!.a.c m.lo m.hi m.ats m.aA m.aC w hku.r.rd hku.a.rd hm.ra hAA (by omega) (by omega) (by omega)).mono fun e w' ⟨v,kn,he,hv,hr,hsz,hb2⟩=>?_
  obtain ⟨x,rfl,rfl,hx,f1,f2⟩:=keOfF hv
  exact ⟨⟨x,he,fun _=>⟨hr,hsz,⟨fun _=>f1,fun _=>f2⟩,hx⟩⟩,hb2⟩
theorem pTellX {r:RP} {m:PM} {p n:Nat} {w:World} (h:RdP w r) (hm:RdM w m) (hh:HeP r m p n) :
 Calls Tryz.prog 31 #[.slice r.m.A r.m.z.size r.m.c,.int .i64 n,.int .i64 ((p:Int) + 1),.slice m.mA m.mks.size m.mC] w fun e w'=>(∃ y:RW (RW Int),e=.returned (.tuple #[.slice y.A y.z.size y.c,.int .i64 (if qas m.mks r.n=0 then 0 else 2)])∧(qas m.mks r.n=0→SepMM w.heap.size w' r.m.z y∧qyx r.m.z p (qda r.m.z[p]!.z m.mks) y.z))∧Below w.heap.size w w':=by
 have hR:=qcq hh.c
 rw [hh.nn] at hR ⊢
 by_cases hx:qas m.mks (n:Int)=0
 ·rw [if_pos hx]
  refine (qoo r.m.A r.m.c n p r.m.z m.mA m.mC m.mks w ⟨h.m,h.mm⟩ hR hh.pn hm.rm hx).mono fun e w' ⟨⟨y,he,hy,ht⟩,hb⟩=>?_
  exact ⟨⟨y,he,fun _=>⟨hy.sep (Nat.le_refl _) (Nat.le_refl _) (fun _ _ _=>rfl),ht⟩⟩,hb⟩
 ·rw [if_neg hx]
  refine (qpy r.m.A r.m.c n p r.m.z m.mA m.mC m.mks w ⟨h.m,h.mm⟩ hR hh.pn hm.rm hh.mks hx).mono fun e w' ⟨he,hb⟩=>?_
  exact ⟨⟨⟨none,0,#[]⟩,he,fun h=>absurd h hx⟩,hb⟩
end Go.Proofs.YtlkmagmdhopcjaaGreat
