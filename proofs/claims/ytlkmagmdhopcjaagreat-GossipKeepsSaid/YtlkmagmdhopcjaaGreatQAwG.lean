/- Texts that the law leans on. -/
import Derived.BigGuardPart
import Derived.Test.YtlkmagmdhopcjaaGreatQGoB
import Derived.Test.YtlkmagmdhopcjaaGreatQRgS
namespace Go.Proofs.YtlkmagmdhopcjaaGreat
open Go.RowKit Go.Sort Go.Lib
set_option maxRecDepth 100000
attribute [local go_sem ↓] qak qai qat
attribute [local go_sem] qan qaj qah qap qbb qbf
theorem q_new (me:Int) (hm:me=1∨me=2) (W:World):Calls Tryz.prog 23 #[.int .i64 3,.int .i64 1,.int .i64 me] W fun e w'=>∃ (r:RP) (cs:Array Value),e=.returned (.tuple #[.agg cs,.int .i64 0])∧cs=(encP r).toArray∧NewR 3 1 me 3 r∧RdP w' r∧Below W.heap.size W w' :=
 (qyo 3 1 me W).mono fun e w' ⟨⟨r,he,hn,hr⟩,hb⟩=>by
   have hp:newP 3 1 me:=by rcases hm with rfl | rfl <;> decide
   rw [if_pos hp] at he hn
   exact ⟨r,_,he,rfl,hn,hr,hb⟩
theorem q_tick (r:RP) (cs:Array Value) (hcs:cs=(encP r).toArray) (h:NewR 3 1 1 3 r) (W:World) (hr:RdP W r) :
 Calls Tryz.prog 16 #[.agg cs] W fun e w'=>∃ (ca:Array Value) (b off c:Nat),e=.returned (.tuple #[.agg ca,.slice (some ⟨b,off,none⟩) 2 c])∧ca.size=18∧qcf ca=true∧ca[6]?=some (.int .i64 1)∧b < w'.heap.size∧w'.cell? ⟨b,off + 1,none⟩=some (.int .i64 10)∧w'.cell? ⟨b,off + 15,none⟩=some (.int .i64 3)∧Below W.heap.size W w':=by
 subst hcs
 obtain ⟨hc,hf⟩:=newG h (Or.inl rfl)
 refine (qlx (fun _ _ _ _=>True) r W hr hf.m' ?_ ?_).mono ?_
 ·intro r1 s2 _ h1 h2 k t os hk _
  rw [(tickN h h1 h2).d] at hk
  exact absurd hk (Nat.not_lt_zero _)
 ·intro r1 s2 _ h1 h2 k t os hk hs
  have hn:=tickN h h1 h2
  rw [hn.d] at hk
  obtain rfl:k=0:=Nat.le_zero.1 hk
  obtain ⟨rfl,rfl⟩:=hs
  exact ⟨hn.c,hn.f,Nat.zero_le _⟩
 ·rintro e w' ⟨⟨s,x,rfl,hT,_,hx⟩,hb⟩
  obtain ⟨ht,m,hm,hz⟩:=qxb h hT
  have h0:0 < x.z.size:=by rw [hz];exact Nat.zero_lt_two
  have h1:1 < x.z.size:=by rw [hz];exact Nat.one_lt_two
  obtain ⟨b,off,hA,hbl,f⟩:=hx.rd.at_ h0
  obtain ⟨b',off',hA',_,f'⟩:=hx.rd.at_ h1
  rw [hA] at hA'
  injection hA' with hA'
  injection hA' with e1 e2
  subst e1 e2
  rw [hz] at f f'
  obtain ⟨a1,a2⟩:=rowP (cs:=(encP s).toArray) rfl
  refine ⟨_,b,off,x.c,by rw [hA,show x.z.size=2 by rw [hz];rfl],a1,a2,by rw [←ht];rfl,hbl,?_,?_,hb⟩
  ·have:=f 1 (by decide)
   rw [show off + 0 * 15 + 1=off + 1 by omega] at this
   rw [this,←hm]
   rfl
  ·have:=f' 0 (by decide)
   rw [show off + 1 * 15 + 0=off + 15 by omega] at this
   rw [this]
   rfl
theorem q_prom (r:RP) (cs:Array Value) (hcs:cs=(encP r).toArray) (h:NewR 3 1 2 3 r) (A B:Option Addr) (a b:Nat) (W:World) (hr:RdP W r) (hm:RdM W (m29 A B a b)) :
 Calls Tryz.prog 9 #[.agg cs,.agg #[.int .i64 10,.int .i64 1,.int .i64 0,.int .i64 0,.int .i64 0,.int .i64 0,.int .i64 0,.int .i64 0,.string ⟨#[]⟩,.int .i64 0,.int .i64 4,.slice A 1 a,.slice B 3 b,.int .i64 1]] W fun e w'=>∃ (s:RP) (cb:Array Value),e=.returned (.tuple #[.agg cb,.slice none 0 0])∧cb=(encP s).toArray∧FewC s∧qee s=#[2,0,0]∧s.fr.z=#[1,0,0]∧RdP w' s∧Below W.heap.size W w':=by
 subst hcs
 refine (qqx r (m29 A B a b) W hr hm (newG h (Or.inr rfl)).2).mono ?_
 rintro e w' ⟨⟨s,rfl,hO,hs⟩,hb⟩
 obtain ⟨_,f2,f3,f4⟩:=qxc h hO
 exact ⟨s,_,rfl,rfl,f2,f3,f4,hs.rd (hr.below hb),hb⟩
theorem q_front (r:RP) (cs:Array Value) (hcs:cs=(encP r).toArray) (h:NewR 3 1 1 3 r) (W:World) (hr:RdP W r) :
 Calls Tryz.prog 13 #[.agg cs,.int .i64 5] W fun e w'=>∃ (cd:Array Value) (b off c:Nat),e=.returned (.agg cd)∧cd.size=18∧qcf cd=true∧cd[11]?=some (.slice (some ⟨b,off,none⟩) 3 c)∧b < w'.heap.size∧w'.cell? ⟨b,off,none⟩=some (.int .i64 5)∧Below W.heap.size W w':=by
 subst hcs
 refine (qoj r 5 W hr (newG h (Or.inl rfl)).2.c).mono ?_
 rintro e w' ⟨⟨s,rfl,hF,hs⟩,hb⟩
 have hz:=qtb h hF
 obtain ⟨b,off,hA,hbl,f⟩:=(hs.rd (hr.below hb)).fr.rd.at_ (i:=0) (by rw [hz];decide)
 obtain ⟨a1,a2⟩:=rowP (cs:=(encP s).toArray) rfl
 refine ⟨_,b,off,s.fr.c,rfl,a1,a2,?_,hbl,?_,hb⟩
 ·show some (Value.slice s.fr.A s.fr.z.size s.fr.c)=_
  rw [hA,hz]
  rfl
 ·rw [hz] at f
  exact f
theorem q_due (r:RP) (A:Option Addr) (c:Nat) (cc:Array Value) (hcc:cc=(encP (c29 r A c)).toArray) (h:NewR 3 1 1 3 r) (W:World) (hr:RdP W (c29 r A c)) :
 Calls Tryz.prog 25 #[.agg cc] W fun e w'=>∃ (B:Option Addr) (d:Nat),e=.returned (.slice B 1 d)∧RdI_R w'.heap.size w' B #[11]∧Below W.heap.size W w':=by
 subst hcc
 refine (due_any _ W hr (qly h A c).2).mono ?_
 rintro e w' ⟨⟨v,rfl,ho⟩,hb⟩
 rw [c29_due h] at ho
 obtain ⟨y,rfl,hz,hy⟩:=qdq (l:=[11]) ho
 obtain ⟨B,d,z⟩:=y
 have hz':z=#[11]:=hz
 subst hz'
 exact ⟨B,d,rfl,hy.rd,hb⟩
theorem q_aged (r:RP) (A:Option Addr) (c:Nat) (cc:Array Value) (hcc:cc=(encP (c29 r A c)).toArray) (h:NewR 3 1 1 3 r) (W:World) (hr:RdP W (c29 r A c)) :
 Calls Tryz.prog 26 #[.agg cc] W fun e w'=>∃ (s:RP) (b off d:Nat),e=.returned (.agg #[.int .i64 s.n,.int .i64 s.f,.int .i64 s.self,.int .i64 s.clock,.int .i64 s.seq,.int .i64 s.floor,.int .i64 s.ticks,.slice (some ⟨b,off,none⟩) 2 d,.slice s.o.A s.o.z.size s.o.c,.slice s.k.A s.k.z.size s.k.c,.slice s.m.A s.m.z.size s.m.c,.slice s.fr.A s.fr.z.size s.fr.c,.slice s.d.A s.d.z.size s.d.c,.int .i64 s.lt,.int .i64 s.lid,.int .i64 s.count,.slice s.it.A s.it.z.size s.it.c,.slice s.ss.A s.ss.z.size s.ss.c])∧w'.cell? ⟨b,off + 10 + 7,none⟩=some (.int .i64 6)∧Below W.heap.size W w':=by
 subst hcc
 refine (qun _ W hr (qly h A c).2).mono ?_
 rintro e w' ⟨⟨s,rfl,hA,hs⟩,hb⟩
 obtain ⟨h1,h2⟩:=c29_age h hA
 obtain ⟨b,off,hE,hbl,f⟩:=(hs.rd (hr.below hb)).e.rd.at_ (i:=1) (by rw [h1];decide)
 refine ⟨s,b,off,s.e.c,?_,?_,hb⟩
 ·simp only [encP]
  rw [hE,h1]
 ·have:=f 7 (by decide)
  rw [show off + 1 * 10 + 7=off + 10 + 7 by omega] at this
  rw [this,←h2]
  rfl
theorem q_tell (r:RP) (A:Option Addr) (c:Nat) (cc:Array Value) (hcc:cc=(encP (c29 r A c)).toArray) (h:NewR 3 1 1 3 r) (W:World) (hr:RdP W (c29 r A c)) :
 Calls Tryz.prog 27 #[.agg cc] W fun e w'=>∃ (B:Option Addr) (d:Nat),e=.returned (.slice B 6 d)∧Below W.heap.size W w':=by
 subst hcc
 obtain ⟨h1,h2⟩:=qly h A c
 refine (qqk _ W hr h2 h1).mono ?_
 rintro e w' ⟨⟨x,pm,rfl,hT⟩,hb⟩
 have e6:x.z.size=6:=by rw [hT.1];exact c29_tell h A c pm
 exact ⟨x.A,x.c,by rw [e6],hb⟩
theorem q_prms (r:RP) (cs:Array Value) (hcs:cs=(encP r).toArray) (h:NewR 3 1 1 3 r) (W:World) (hr:RdP W r) :
 Calls Tryz.prog 28 #[.agg cs] W fun e w'=>∃ m:PM,e=.returned (.agg #[.int .i64 10,.int .i64 m.fr,.int .i64 m.id,.int .i64 m.t,.int .i64 m.bal,.int .i64 m.abal,.int .i64 m.ph,.int .i64 m.q,.string m.pay,.int .i64 m.lo,.int .i64 m.hi,.slice m.aA m.ats.size m.aC,.slice m.mA m.mks.size m.mC,.int .i64 m.dn])∧Below W.heap.size W w':=by
 subst hcs
 obtain ⟨hc,hf⟩:=newG h (Or.inl rfl)
 refine (qir r W hr hf.c hc).mono ?_
 rintro e w' ⟨⟨m,rfl,hm,_⟩,hb⟩
 refine ⟨m,?_,hb⟩
 rw [←hm.h.1]
 rfl
theorem qhp {w W:World} (h:Below w.heap.size w W) (cs:Array Value) (t:TypeId):BoxG w W.heap.size cs t (W.alloc (.cells cs t)):=⟨qab h _,heap_alloc_new W _⟩
theorem m29_rd (w:World) (T T':TypeId):RdM ((w.alloc (.cells #[.int .i64 3,.int .i64 11] T)).alloc (.cells #[.int .i64 4,.int .i64 0,.int .i64 0] T')) (m29 (some ⟨w.heap.size,0,none⟩) (some ⟨w.heap.size + 1,0,none⟩) 1 3):=by
 have h1:((w.alloc (.cells #[.int .i64 3,.int .i64 11] T)).alloc (.cells #[.int .i64 4,.int .i64 0,.int .i64 0] T')).heap[w.heap.size]?=some (.cells #[.int .i64 3,.int .i64 11] T (0,0)):=((bel1 (w.alloc (.cells #[.int .i64 3,.int .i64 11] T)) _).block _ (by simp)).trans (heap_alloc_new w _)
 have h2:((w.alloc (.cells #[.int .i64 3,.int .i64 11] T)).alloc (.cells #[.int .i64 4,.int .i64 0,.int .i64 0] T')).heap[w.heap.size + 1]?=some (.cells #[.int .i64 4,.int .i64 0,.int .i64 0] T' (0,0)):=heap_alloc2_new w _ _
 refine ⟨fun _=>⟨w.heap.size,0,rfl,qal h1,fun t ht=>?_⟩,fun _=>⟨w.heap.size + 1,0,rfl,qal h2,fun i hi=>?_⟩,by show 1≤1000000;decide,by show 3≤1000000;decide,by show 0≤1000000;decide⟩
 ·have ht':t < 2:=ht
  rw [Nat.zero_add,cell_of_row _ _ t _ _ (0,0) h1]
  rcases (show t=0∨t=1 by omega) with rfl | rfl <;> rw [get_flatK _ _ _ _ ht] <;> rfl
 ·have hi':i < 3:=hi
  rw [Nat.zero_add,cell_of_row _ _ i _ _ (0,0) h2]
  rcases (show i=0∨i=1∨i=2 by omega) with rfl | rfl | rfl <;> rfl
theorem fld_rep7 (v0 v1 v2 v3 v4 v5 v6 v7 v8 v9 v10 v11 v12 v13 v14 v15 v16 v17:Value) (W:World):(Instr.field 35 (.agg #[v0,v1,v2,v3,v4,v5,v6,v7,v8,v9,v10,v11,v12,v13,v14,v15,v16,v17]) 7).run Tryz.prog W=.ok v7 W:=by kernel_rfl
theorem fld_msg0 (v0 v1 v2 v3 v4 v5 v6 v7 v8 v9 v10 v11 v12 v13:Value) (W:World):(Instr.field 37 (.agg #[v0,v1,v2,v3,v4,v5,v6,v7,v8,v9,v10,v11,v12,v13]) 0).run Tryz.prog W=.ok v0 W:=by kernel_rfl
theorem c29_rd {r:RP} {W:World} {n:Nat} {T:TypeId} (hr:RdP W r) (h:W.heap[n]?=some (.cells #[.int .i64 11,.int .i64 1,.int .i64 3,.int .i64 0,.int .i64 0,.int .i64 0,.int .i64 0,.int .i64 6,.string ⟨#[]⟩,.slice none 0 0,.int .i64 21,.int .i64 1,.int .i64 3,.int .i64 0,.int .i64 0,.int .i64 0,.int .i64 0,.int .i64 5,.string ⟨#[]⟩,.slice none 0 0] T (0,0))):RdP W (c29 r (some ⟨n,0,none⟩) 2):=by
 have hE:(#[.int .i64 11,.int .i64 1,.int .i64 3,.int .i64 0,.int .i64 0,.int .i64 0,.int .i64 0,.int .i64 6,.string ⟨#[]⟩,.slice none 0 0,.int .i64 21,.int .i64 1,.int .i64 3,.int .i64 0,.int .i64 0,.int .i64 0,.int .i64 0,.int .i64 5,.string ⟨#[]⟩,.slice none 0 0]:Array Value)=flatK encE 10 #[e11,e21]:=by kernel_rfl
 rw [hE] at h
 refine ⟨⟨fun _=>⟨n,0,rfl,qal h,fun t ht=>?_⟩,fun i hi=>?_⟩,hr.o,hr.k,hr.kk,hr.m,hr.mm,hr.fr,hr.d,hr.dd,hr.it,hr.ss⟩
 ·have ht':t < (flatK encE 10 #[e11,e21]).size:=by rw [size_flatK];exact ht
  rw [Nat.zero_add,cell_of_row _ _ t _ _ (0,0) h,Array.getElem?_eq_getElem ht']
  show _=some (flatK encE 10 #[e11,e21])[t]!
  rw [getElem!_pos _ t ht']
 ·have hi':i < 2:=hi
  rcases (show i=0∨i=1 by omega) with rfl | rfl <;> exact ⟨fun h0=>absurd h0 (Nat.lt_irrefl 0),Nat.zero_le _⟩
set_option maxHeartbeats 32000000 in
theorem aw29_any (w:World):Calls Tryz.prog 8 #[] w fun e w'=>e=.returned (.bool true)∧Below w.heap.size w w':=by
 have hfd1:=fld_rep7
 have hfd2:=fld_msg0
 go_enter Tryz.func8,Tryz.ntmps8
 go_wp2_with fail
 refine (q_new 1 (Or.inl rfl) _).mono ?_
 rintro _ w1 ⟨r,cs,rfl,hcs,hn,hr,hb1⟩
 obtain ⟨hsz,hone⟩:=rowP hcs
 have HN:=hI hn
 have HCS:=hI hcs
 have HX:=hI (qhp hb1 cs 35)
 have HR:=hI (hr.below (bel1 w1 (.cells cs 35)))
 clear hb1 hr hn hcs
 have x1:=HX.out.box hsz
 have x2:=HX.out.rowAt
 go_wp2_with fail
 refine (q_tick r cs HCS.out HN.out _ HR.out).mono ?_
 rintro _ w2 ⟨ca,ba,oa,na,rfl,hsza,honea,h6,hba,f1,f15,hb⟩
 have HX2:=hI ((HX.out.next hb).next (bel1 w2 (.cells ca 35)))
 have HR2:=hI ((HR.out.below hb).below (bel1 w2 (.cells ca 35)))
 have HA:=hI (qhp (qaa HX.out.b hb) ca 35)
 have HF1:Hid ((w2.alloc (.cells ca 35)).cell? ⟨ba,oa + 1,none⟩=some (.int .i64 10)):=((bel1 w2 (.cells ca 35)).cell (p:=⟨ba,oa + 1,none⟩) hba).trans f1
 have HF15:Hid ((w2.alloc (.cells ca 35)).cell? ⟨ba,oa + 15,none⟩=some (.int .i64 3)):=((bel1 w2 (.cells ca 35)).cell (p:=⟨ba,oa + 15,none⟩) hba).trans f15
 have H6:=hI h6
 clear hb f1 f15 hba h6 HX HR x1 x2
 go_upto_region 3 with fail
 obtain ⟨w3,hw3⟩:∃ W,W=w2.alloc (.cells ca 35):=⟨_,rfl⟩
 rw [←hw3] at HX2 HR2 HA HF1 HF15 ⊢
 clear hw3
 have y1:=HF1.out
 have y2:=HF15.out
 have y3:=HA.out.at_ 6 H6.out
 go_upto_region 5 with fail
 clear y1 y2 y3 HA HF1 HF15 H6
 go_wp2_with fail
 refine (q_new 2 (Or.inr rfl) _).mono ?_
 rintro _ w4 ⟨r2,c2,rfl,hc2,hn2,hr2,hb⟩
 obtain ⟨hsz2,hone2⟩:=rowP hc2
 have HN2:=hI hn2
 have HC2:=hI hc2
 have HX4:=hI ((HX2.out.next hb).next (bel1 w4 (.cells c2 35)))
 have HR4:=hI ((HR2.out.below hb).below (bel1 w4 (.cells c2 35)))
 have HB4:=hI (qhp (qaa HX2.out.b hb) c2 35)
 have HRB:=hI (hr2.below (bel1 w4 (.cells c2 35)))
 clear hb hc2 hn2 hr2 HX2 HR2
 go_upto_region 6 with fail
 obtain ⟨w5,hw5⟩:∃ W,W=w4.alloc (.cells c2 35):=⟨_,rfl⟩
 rw [←hw5] at HX4 HR4 HB4 HRB ⊢
 clear hw5
 have x1:=HB4.out.box hsz2
 have x2:=HB4.out.rowAt
 have HM5:=hI (m29_rd w5 29 3)
 have HB6:Hid (Below w5.heap.size w5 ((w5.alloc (.cells #[.int .i64 3,.int .i64 11] 29)).alloc (.cells #[.int .i64 4,.int .i64 0,.int .i64 0] 3))):=qab (bel1 w5 _) _
 go_wp2_with fail
 refine (q_prom r2 c2 HC2.out HN2.out (some ⟨w5.heap.size,0,none⟩) (some ⟨w5.heap.size + 1,0,none⟩) 1 3 _ (HRB.out.below HB6.out) HM5.out).mono ?_
 rintro _ w6 ⟨s,cb,rfl,hcb,hfs,hms,hfz,hrs,hb⟩
 obtain ⟨hszb,honeb⟩:=rowP hcb
 obtain ⟨bf,off,hA,hbf,ff⟩:=hrs.fr.rd.at_ (i:=0) (by rw [hfz];exact Nat.zero_lt_succ _)
 have h11:cb[11]?=some (.slice (some ⟨bf,off,none⟩) 3 s.fr.c):=by
  rw [hcb]
  show some (Value.slice s.fr.A s.fr.z.size s.fr.c)=_
  rw [hA,hfz]
  rfl
 have hf0:w6.cell? ⟨bf,off,none⟩=some (.int .i64 1):=by rw [hfz] at ff;exact ff
 have HX6:=hI (((HX4.out.next HB6.out).next hb).next (bel1 w6 (.cells cb 35)))
 have HR6:=hI (((HR4.out.below HB6.out).below hb).below (bel1 w6 (.cells cb 35)))
 have HBB:=hI (qhp (qaa (qaa HX4.out.b HB6.out) hb) cb 35)
 have HRS:=hI (hrs.below (bel1 w6 (.cells cb 35)))
 have HF0:Hid ((w6.alloc (.cells cb 35)).cell? ⟨bf,off,none⟩=some (.int .i64 1)):=((bel1 w6 (.cells cb 35)).cell (p:=⟨bf,off,none⟩) hbf).trans hf0
 have hbf2:bf < (w6.alloc (.cells cb 35)).heap.size:=by simp;omega
 have H11:=hI h11
 have HCB:=hI hcb
 have HFS:=hI hfs
 have HMS:=hI hms
 clear hb hcb hfs hms hfz hrs hA ff h11 hf0 hbf x1 x2 HM5 HB6 HX4 HR4 HB4 HRB HN2 HC2
 go_upto_region 7 with fail
 obtain ⟨w7,hw7⟩:∃ W,W=w6.alloc (.cells cb 35):=⟨_,rfl⟩
 rw [←hw7] at HX6 HR6 HBB HRS HF0 hbf2 ⊢
 clear hw7
 have x1:=HBB.out.box hszb
 have x2:=HBB.out.rowAt
 go_wp2_with fail
 refine (pr_marks s cb HCB.out HFS.out #[2,0,0] HMS.out _ HRS.out).mono ?_
 rintro _ w8 ⟨A8,c8,rfl,hr8,hb8⟩
 have HX8:=hI (HX6.out.next hb8)
 have HR8:=hI (HR6.out.below hb8)
 have HBB8:=hI (HBB.out.next hb8)
 have HF8:Hid (w8.cell? ⟨bf,off,none⟩=some (.int .i64 1)):=(hb8.cell (p:=⟨bf,off,none⟩) hbf2).trans HF0.out
 have hbf8:bf < w8.heap.size:=Nat.lt_of_lt_of_le hbf2 hb8.size
 have HS8:=hI (sameLit w8 A8 c8 #[2,0,0] #[.int .i64 2,.int .i64 0,.int .i64 0] hr8 (by simp [qcv]) (by decide))
 clear hb8 hr8 x1 x2 HX6 HR6 HBB HRS HF0 hbf2
 go_wp2_with fail
 refine HS8.out.mono ?_
 rintro _ w9 ⟨rfl,hb9⟩
 have hb89:Below w8.heap.size w8 w9:=qaa (bel1 w8 (.cells #[.int .i64 2,.int .i64 0,.int .i64 0] 3)) hb9
 have HX9:=hI (HX8.out.next hb89)
 have HR9:=hI (HR8.out.below hb89)
 have HBB9:=hI (HBB8.out.next hb89)
 have y1:=HBB9.out.at_ 11 H11.out
 have y2:w9.cell? ⟨bf,off,none⟩=some (.int .i64 1):=(hb89.cell (p:=⟨bf,off,none⟩) hbf8).trans HF8.out
 have x1:=HX9.out.box hsz
 have x2:=HX9.out.rowAt
 clear hb9 hb89 HS8 HX8 HR8 HBB8 HF8
 go_upto_region 10 with fail
 clear y1 y2 x1 x2 HBB9 HCB HFS HMS H11
 have HC10:=hI (qhp HX9.out.b cs 35)
 have HX10:=hI (HX9.out.next (bel1 w9 (.cells cs 35)))
 have HR10:=hI (HR9.out.below (bel1 w9 (.cells cs 35)))
 have hg9:w.heap.size≤w9.heap.size:=HX9.out.b.size
 have hg19:w1.heap.size < w9.heap.size:=HX9.out.lt
 obtain ⟨g9,hg⟩:∃ g,w9.heap.size=g:=⟨_,rfl⟩
 obtain ⟨w10,hw10⟩:∃ W,W=w9.alloc (.cells cs 35):=⟨_,rfl⟩
 rw [←hw10] at HC10 HX10 HR10 ⊢
 have HB10:Hid (Below g9 w9 w10):=by show Below _ _ _;rw [hw10,←hg];exact bel1 w9 _
 rw [hg] at HC10 hg9 hg19 ⊢
 have HG9:Hid (w9.heap.size=g9):=hg
 clear hw10 hg HX9
 have c6:=HC10.out.at_ 6 (v:=.int .i64 r.ticks) (by rw [HCS.out];rfl)
 have f6:=HC10.out.froz 6
 go_upto_region 11 with fail
 have HC11:=hI (HC10.out.set hg9 6 (.int .i64 24))
 have HX11:=hI (HX10.out.far (g2:=g9) hg9 (by omega) 6 (.int .i64 24))
 have HB11:Hid (Below g9 w9 (w10.setCell ⟨g9,6,none⟩ (.int .i64 24))):=HB10.out.setCell (p:=⟨g9,6,none⟩) (Nat.le_refl _) _
 obtain ⟨w11,hw11⟩:∃ W,W=w10.setCell ⟨g9,6,none⟩ (.int .i64 24):=⟨_,rfl⟩
 rw [←hw11] at HC11 HX11 HB11 ⊢
 clear hw11 c6 f6 HC10 HX10 HB10
 have c7:=HC11.out.at_ 7 (v:=.slice r.e.A r.e.z.size r.e.c) (by rw [HCS.out];rfl)
 have f7:=HC11.out.froz 7
 have hl11:=HC11.out.lt
 go_upto_region 12 with fail
 have HC12:=hI ((HC11.out.set hg9 7 (.slice (some ⟨w11.heap.size,0,none⟩) 2 2)).next (bel1 _ (.cells #[.int .i64 11,.int .i64 1,.int .i64 3,.int .i64 0,.int .i64 0,.int .i64 0,.int .i64 0,.int .i64 6,.string ⟨#[]⟩,.slice none 0 0,.int .i64 21,.int .i64 1,.int .i64 3,.int .i64 0,.int .i64 0,.int .i64 0,.int .i64 0,.int .i64 5,.string ⟨#[]⟩,.slice none 0 0] 58)))
 have HX12:=hI ((HX11.out.far (g2:=g9) hg9 (by omega) 7 (.slice (some ⟨w11.heap.size,0,none⟩) 2 2)).next (bel1 _ (.cells #[.int .i64 11,.int .i64 1,.int .i64 3,.int .i64 0,.int .i64 0,.int .i64 0,.int .i64 0,.int .i64 6,.string ⟨#[]⟩,.slice none 0 0,.int .i64 21,.int .i64 1,.int .i64 3,.int .i64 0,.int .i64 0,.int .i64 0,.int .i64 0,.int .i64 5,.string ⟨#[]⟩,.slice none 0 0] 58)))
 have HB12:Hid (Below g9 w9 ((w11.setCell ⟨g9,7,none⟩ (.slice (some ⟨w11.heap.size,0,none⟩) 2 2)).alloc (.cells #[.int .i64 11,.int .i64 1,.int .i64 3,.int .i64 0,.int .i64 0,.int .i64 0,.int .i64 0,.int .i64 6,.string ⟨#[]⟩,.slice none 0 0,.int .i64 21,.int .i64 1,.int .i64 3,.int .i64 0,.int .i64 0,.int .i64 0,.int .i64 0,.int .i64 5,.string ⟨#[]⟩,.slice none 0 0] 58))):=(HB11.out.setCell (p:=⟨g9,7,none⟩) (Nat.le_refl _) _).alloc (by simp;omega) _
 have HE12:Hid (((w11.setCell ⟨g9,7,none⟩ (.slice (some ⟨w11.heap.size,0,none⟩) 2 2)).alloc (.cells #[.int .i64 11,.int .i64 1,.int .i64 3,.int .i64 0,.int .i64 0,.int .i64 0,.int .i64 0,.int .i64 6,.string ⟨#[]⟩,.slice none 0 0,.int .i64 21,.int .i64 1,.int .i64 3,.int .i64 0,.int .i64 0,.int .i64 0,.int .i64 0,.int .i64 5,.string ⟨#[]⟩,.slice none 0 0] 58)).heap[w11.heap.size]?=some (.cells #[.int .i64 11,.int .i64 1,.int .i64 3,.int .i64 0,.int .i64 0,.int .i64 0,.int .i64 0,.int .i64 6,.string ⟨#[]⟩,.slice none 0 0,.int .i64 21,.int .i64 1,.int .i64 3,.int .i64 0,.int .i64 0,.int .i64 0,.int .i64 0,.int .i64 5,.string ⟨#[]⟩,.slice none 0 0] 58 (0,0))):=by
  have:=heap_alloc_new (w11.setCell ⟨g9,7,none⟩ (.slice (some ⟨w11.heap.size,0,none⟩) 2 2)) (.cells #[.int .i64 11,.int .i64 1,.int .i64 3,.int .i64 0,.int .i64 0,.int .i64 0,.int .i64 0,.int .i64 6,.string ⟨#[]⟩,.slice none 0 0,.int .i64 21,.int .i64 1,.int .i64 3,.int .i64 0,.int .i64 0,.int .i64 0,.int .i64 0,.int .i64 5,.string ⟨#[]⟩,.slice none 0 0] 58)
  rwa [show (w11.setCell ⟨g9,7,none⟩ (.slice (some ⟨w11.heap.size,0,none⟩) 2 2)).heap.size=w11.heap.size by simp] at this
 obtain ⟨w12,hw12⟩:∃ W,W=(w11.setCell ⟨g9,7,none⟩ (.slice (some ⟨w11.heap.size,0,none⟩) 2 2)).alloc (.cells #[.int .i64 11,.int .i64 1,.int .i64 3,.int .i64 0,.int .i64 0,.int .i64 0,.int .i64 0,.int .i64 6,.string ⟨#[]⟩,.slice none 0 0,.int .i64 21,.int .i64 1,.int .i64 3,.int .i64 0,.int .i64 0,.int .i64 0,.int .i64 0,.int .i64 5,.string ⟨#[]⟩,.slice none 0 0] 58):=⟨_,rfl⟩
 rw [←hw12] at HC12 HX12 HB12 HE12 ⊢
 clear hw12 c7 f7 hl11 HC11 HX11 HB11
 obtain ⟨n,hn⟩:∃ n,w11.heap.size=n:=⟨_,rfl⟩
 rw [hn] at HC12 HE12 ⊢
 clear hn
 obtain ⟨cc,hcc⟩:∃ cc,cc=(encP (c29 r (some ⟨n,0,none⟩) 2)).toArray:=⟨_,rfl⟩
 have hset:(cs.setIfInBounds 6 (.int .i64 24)).setIfInBounds 7 (.slice (some ⟨n,0,none⟩) 2 2)=cc:=by rw [HCS.out,hcc];rfl
 rw [hset] at HC12
 obtain ⟨hszc,honec⟩:=rowP hcc
 have HCC:=hI hcc
 have HR12:=hI (HR9.out.below (by rw [HG9.out];exact HB12.out))
 have HRC:=hI (c29_rd HR12.out HE12.out)
 have x1:=HX12.out.box hsz
 have x2:=HX12.out.rowAt
 clear hset hcc HR9 HG9 HB12 HE12 hg9 hg19
 go_wp2_with fail
 refine (q_front r cs HCS.out HN.out _ HR12.out).mono ?_
 rintro _ w13 ⟨cd,bd,od,nd,rfl,hszd,honed,h11,hbd,hd0,hb⟩
 have HX14:=hI ((HX12.out.next hb).next (bel1 w13 (.cells cd 35)))
 have HC14:=hI ((HC12.out.next hb).next (bel1 w13 (.cells cd 35)))
 have HR14:=hI ((HR12.out.below hb).below (bel1 w13 (.cells cd 35)))
 have HRC14:=hI ((HRC.out.below hb).below (bel1 w13 (.cells cd 35)))
 have HD14:=hI (qhp (qaa HX12.out.b hb) cd 35)
 have HF14:Hid ((w13.alloc (.cells cd 35)).cell? ⟨bd,od,none⟩=some (.int .i64 5)):=((bel1 w13 (.cells cd 35)).cell (p:=⟨bd,od,none⟩) hbd).trans hd0
 have hbd2:bd < (w13.alloc (.cells cd 35)).heap.size:=by simp;omega
 have H11:=hI h11
 clear hb h11 hd0 hbd x1 x2 HX12 HC12 HR12 HRC
 go_upto_region 13 with fail
 obtain ⟨w14,hw14⟩:∃ W,W=w13.alloc (.cells cd 35):=⟨_,rfl⟩
 rw [←hw14] at HX14 HC14 HR14 HRC14 HD14 HF14 hbd2 ⊢
 clear hw14
 have x1:=HC14.out.box hszc
 have x2:=HC14.out.rowAt
 go_wp2_with fail
 refine (q_due r _ _ cc HCC.out HN.out _ HRC14.out).mono ?_
 rintro _ w15 ⟨B,d,rfl,hr15,hb⟩
 have HS15:=hI (sameLit w15 B d #[11] #[.int .i64 11] hr15 (by simp [qcv]) (by decide))
 have HX15:=hI (HX14.out.next hb)
 have HC15:=hI (HC14.out.next hb)
 have HR15:=hI (HR14.out.below hb)
 have HRC15:=hI (HRC14.out.below hb)
 have HD15:=hI (HD14.out.next hb)
 have HF15:Hid (w15.cell? ⟨bd,od,none⟩=some (.int .i64 5)):=(hb.cell (p:=⟨bd,od,none⟩) hbd2).trans HF14.out
 have hbd15:bd < w15.heap.size:=Nat.lt_of_lt_of_le hbd2 hb.size
 clear hb hr15 x1 x2 HX14 HC14 HR14 HRC14 HD14 HF14 hbd2
 go_wp2_with fail
 refine HS15.out.mono ?_
 rintro _ w16 ⟨rfl,hb16⟩
 have hb:Below w15.heap.size w15 w16:=qaa (bel1 w15 (.cells #[.int .i64 11] 3)) hb16
 have HX16:=hI (HX15.out.next hb)
 have HC16:=hI (HC15.out.next hb)
 have HR16:=hI (HR15.out.below hb)
 have HRC16:=hI (HRC15.out.below hb)
 have HD16:=hI (HD15.out.next hb)
 have HF16:Hid (w16.cell? ⟨bd,od,none⟩=some (.int .i64 5)):=(hb.cell (p:=⟨bd,od,none⟩) hbd15).trans HF15.out
 have hbd16:bd < w16.heap.size:=Nat.lt_of_lt_of_le hbd15 hb.size
 clear hb hb16 HS15 HX15 HC15 HR15 HRC15 HD15 HF15 hbd15
 have x1:=HC16.out.box hszc
 have x2:=HC16.out.rowAt
 go_wp2_with fail
 refine (q_aged r _ _ cc HCC.out HN.out _ HRC16.out).mono ?_
 rintro _ w17 ⟨s2,b2,o2,d2,rfl,h17,hb⟩
 have h17':w17.cell? ⟨b2,o2 + 17,none⟩=some (.int .i64 6):=h17
 have HX17:=hI (HX16.out.next hb)
 have HC17:=hI (HC16.out.next hb)
 have HR17:=hI (HR16.out.below hb)
 have HRC17:=hI (HRC16.out.below hb)
 have HD17:=hI (HD16.out.next hb)
 have HF17:Hid (w17.cell? ⟨bd,od,none⟩=some (.int .i64 5)):=(hb.cell (p:=⟨bd,od,none⟩) hbd16).trans HF16.out
 have hbd17:bd < w17.heap.size:=Nat.lt_of_lt_of_le hbd16 hb.size
 clear hb x1 x2 HX16 HC16 HR16 HRC16 HD16 HF16 hbd16
 have x1:=HC17.out.box hszc
 have x2:=HC17.out.rowAt
 go_wp2_with fail
 refine (q_tell r _ _ cc HCC.out HN.out _ HRC17.out).mono ?_
 rintro _ w18 ⟨B3,d3,rfl,hb⟩
 have HX18:=hI (HX17.out.next hb)
 have HR18:=hI (HR17.out.below hb)
 have HD18:=hI (HD17.out.next hb)
 have HF18:Hid (w18.cell? ⟨bd,od,none⟩=some (.int .i64 5)):=(hb.cell (p:=⟨bd,od,none⟩) hbd17).trans HF17.out
 have hbd18:bd < w18.heap.size:=Nat.lt_of_lt_of_le hbd17 hb.size
 clear hb x1 x2 h17 h17' HX17 HC17 HR17 HRC17 HD17 HF17 hbd17
 have x1:=HX18.out.box hsz
 have x2:=HX18.out.rowAt
 go_wp2_with fail
 refine (q_prms r cs HCS.out HN.out _ HR18.out).mono ?_
 rintro _ w19 ⟨m,rfl,hb⟩
 have HX19:=hI (HX18.out.next hb)
 have HD19:=hI (HD18.out.next hb)
 have y2:w19.cell? ⟨bd,od,none⟩=some (.int .i64 5):=(hb.cell (p:=⟨bd,od,none⟩) hbd18).trans HF18.out
 have y1:=HD19.out.at_ 11 H11.out
 clear hb x1 x2 HX18 HR18 HD18 HF18
 go_wp2
 go_ret
 exact ⟨rfl,HX19.out.b⟩
end Go.Proofs.YtlkmagmdhopcjaaGreat
namespace Go.Proofs.YtlkmagmdhopcjaaGreat
open Go.RowKit Go.Sort Go.Lib
set_option maxRecDepth 100000
attribute [local go_sem ↓] qak qai qat
attribute [local go_sem] qan qaj qah qap qbb qbf
theorem TickR.len {r s:RP} {x:RW OU} {W:World} (h:TickR StP r s x W) (hc:chkR r=true) (hf:FewM r):x.z.size≤1000:=by
 rcases h with ⟨h0,_⟩ | ⟨_,r1,s2,pm,os,h1,h2,h3,h4,_,_⟩
 ·rw [hc] at h0;cases h0
 ·obtain ⟨⟨a1,a2⟩,a3,a4⟩:=qlb hf hc h1 h2
  obtain ⟨⟨b1,b2⟩,_,b4,_⟩:=qel a1 a2 (by omega) _ (by omega) s os h3
  have hn:=(qdk b1).1.2
  have h5:=qlk s hn s.e.z.size
  have h6:=qis s hn pm
  have h7:=(qcn.1 (qkk b1)).1
  rw [h4,List.size_toArray,List.length_append,List.length_append]
  omega
structure KpW (w:World) (r a b c:RP) (x:RW OU) (cr cm ca cb cc:Array Value) (p q s:Nat) (W:World):Prop where
 X:BoxRM w cr cm W
 A:BoxG w p ca 35 W
 B:BoxG w q cb 35 W
 C:BoxG w s cc 35 W
 ra:RdP W a
 rb:RdP W b
 rc:RdP W c
 rx:RdN qbw 15 W x
 g:∀ o ∈ x.z.toList,qqa r.n r.self o∧RdM W o.m
theorem KpW.next {w:World} {r a b c:RP} {x:RW OU} {cr cm ca cb cc:Array Value} {p q s:Nat} {W W':World} (h:KpW w r a b c x cr cm ca cb cc p q s W) (hb:Below W.heap.size W W'):KpW w r a b c x cr cm ca cb cc p q s W' :=
 ⟨h.X.next hb,h.A.next hb,h.B.next hb,h.C.next hb,h.ra.below hb,h.rb.below hb,h.rc.below hb,h.rx.below hb,fun o ho=>⟨(h.g o ho).1,(h.g o ho).2.next hb⟩⟩
theorem KpW.all {w:World} {r a b c:RP} {x:RW OU} {cr cm ca cb cc:Array Value} {p q s:Nat} {W:World} (h:KpW w r a b c x cr cm ca cb cc p q s W) (h0:cr.size=18) (h1:ca.size=18) (h2:cb.size=18) (h3:cc.size=18) (e3:cr[3]?=some (.int .i64 r.clock)) (e4:ca[3]?=some (.int .i64 a.clock)) :
 qaq W w.heap.size 18=true∧rowAt W w.heap.size=cr∧qaq W p 18=true∧rowAt W p=ca∧qaq W q 18=true∧rowAt W q=cb∧qaq W s 18=true∧rowAt W s=cc∧W.cell? ⟨w.heap.size,3,none⟩=some (.int .i64 r.clock)∧W.cell? ⟨p,3,none⟩=some (.int .i64 a.clock) :=
 ⟨h.X.r.box h0,h.X.r.rowAt,h.A.box h1,h.A.rowAt,h.B.box h2,h.B.rowAt,h.C.box h3,h.C.rowAt,h.X.r.at_ 3 e3,h.A.at_ 3 e4⟩
theorem cntP_take {l:List OU} {k:Nat} (hk:k < l.length):cntP (l.take (k + 1))=cntP (l.take k) + if l[k].m.k=10 then 1 else 0:=by
 rw [List.take_succ_eq_append_getElem hk,qqb]
 congr 1
 unfold cntP
 by_cases h:l[k].m.k=10
 ·simp [h]
 ·simp [h]
set_option maxHeartbeats 16000000 in
theorem qqn (r:RP) (m:PM) (t:Int) (w:World) (hr:RdP w r) (ra:RdK encA 2 w.heap.size w m.aA m.ats) (rm:RdI w.heap.size w m.mA m.mks) :
 Calls Tryz.prog 4 #[.agg (encP r).toArray,.agg (msgC m),.int .i64 t] w fun e w'=>e=.returned (.bool true)∧Below w.heap.size w w':=by
 have HF1:Hid (∀ W,Below w.heap.size w W→Calls Tryz.prog 6 #[.agg (encP r).toArray] W fun e w'=>e=.returned (.bool (fewR r))∧Below W.heap.size W w'):=fun W hb=>few25_any r W (hr.below hb)
 have HF2:Hid (∀ W,Calls Tryz.prog 7 #[.agg (msgC m)] W fun e w'=>e=.returned (.bool (qid m))∧Below W.heap.size W w'):=fun W=>Few_any m W
 have AW:Hid (∀ W:World,Calls Tryz.prog 8 #[] W fun e w'=>e=.returned (.bool true)∧Below W.heap.size W w'):=hI aw29_any
 have HR:=hI hr
 have HRAM:Hid (RdK encA 2 w.heap.size w m.aA m.ats∧RdI w.heap.size w m.mA m.mks):=⟨ra,rm⟩
 obtain ⟨g1,hg1⟩:∃ g,fewR r=g:=⟨_,rfl⟩
 obtain ⟨g2,hg2⟩:∃ g,qid m=g:=⟨_,rfl⟩
 rw [hg1] at HF1
 rw [hg2] at HF2
 have HG1:=hI hg1
 have HG2:=hI hg2
 clear hg1 hg2 hr ra rm
 obtain ⟨cr,hcr⟩:∃ c,c=(encP r).toArray:=⟨_,rfl⟩
 obtain ⟨hszr,honer⟩:=rowP hcr
 obtain ⟨cm,hcm⟩:∃ cm,cm=msgC m:=⟨_,rfl⟩
 have hsm:cm.size=14:=by rw [hcm];rfl
 have HCR:=hI hcr
 have HCM:=hI hcm
 have HQ0:Hid (cr[0]?=some (.int .i64 r.n)):=by show _=_;rw [hcr];rfl
 have HQ3:Hid (cr[3]?=some (.int .i64 r.clock)):=by show _=_;rw [hcr];rfl
 have HQ7:Hid (cr[7]?=some (.slice r.e.A r.e.z.size r.e.c)):=by show _=_;rw [hcr];rfl
 rw [←hcr] at HF1
 rw [←hcm] at HF2
 have hgoal:∀ x y:Array Value,cr=x→cm=y→Calls Tryz.prog 4 #[.agg x,.agg y,.int .i64 t] w fun e w'=>e=.returned (.bool true)∧Below w.heap.size w w':=by
  rintro _ _ rfl rfl
  simp only [encP] at hcr
  simp only [msgC] at hcm
  rw [hcr,hcm]
  go_enter Tryz.func4,Tryz.ntmps4
  rw [←hcr,←hcm]
  clear hcr hcm
  have HX:=hI (BoxRM.init w cr cm)
  have x1:=HX.out.r.box hszr
  have x2:=HX.out.r.rowAt
  have x3:=HX.out.m.box hsm
  have x4:=HX.out.m.rowAt
  cases g1
  ·go_wp2_with (first | (go_at_call 6;refine (HF1.out _ HX.out.r.b).mono ?_;rintro _ w1 ⟨rfl,hb⟩;have HX1:=hI (HX.out.next hb);clear hb x1 x2 x3 x4) | (go_at_call 8;refine (AW.out _).mono ?_;rintro _ w9 ⟨rfl,hb⟩;have HXa:=hI (HX1.out.next hb);clear hb))
   go_ret
   exact ⟨rfl,HXa.out.r.b⟩
  have FP:=hI (qvb.1 HG1.out)
  cases g2
  ·go_wp2_with (first | (go_at_call 6;refine (HF1.out _ HX.out.r.b).mono ?_;rintro _ w1 ⟨rfl,hb⟩;have HX1:=hI (HX.out.next hb);clear hb x1 x2 x3 x4;have x3:=HX1.out.m.box hsm;have x4:=HX1.out.m.rowAt) | (go_at_call 7;refine (HF2.out _).mono ?_;rintro _ w2 ⟨rfl,hb⟩;have HX2:=hI (HX1.out.next hb);clear hb x3 x4) | (go_at_call 8;refine (AW.out _).mono ?_;rintro _ w9 ⟨rfl,hb⟩;have HXa:=hI (HX2.out.next hb);clear hb))
   go_ret
   exact ⟨rfl,HXa.out.r.b⟩
  have HM:=hI (fewM_rd HG2.out HRAM.out.1 HRAM.out.2)
  by_cases h20:20 < r.e.z.size
  ·have k20:decide ((20:Int) < (r.e.z.size:Int))=true:=decide_eq_true (by omega)
   go_wp2_with (first | (go_at_call 6;refine (HF1.out _ HX.out.r.b).mono ?_;rintro _ w1 ⟨rfl,hb⟩;have HX1:=hI (HX.out.next hb);clear hb x1 x2 x3 x4;have x3:=HX1.out.m.box hsm;have x4:=HX1.out.m.rowAt) | (go_at_call 7;refine (HF2.out _).mono ?_;rintro _ w2 ⟨rfl,hb⟩;have HX2:=hI (HX1.out.next hb);clear hb x3 x4;have x1:=HX2.out.r.box hszr;have x2:=HX2.out.r.rowAt;have x3:=HX2.out.m.box hsm;have x4:=HX2.out.m.rowAt;have c7:=HX2.out.r.at_ 7 HQ7.out) | (go_at_call 8;refine (AW.out _).mono ?_;rintro _ w9 ⟨rfl,hb⟩;have HXa:=hI (HX2.out.next hb);clear hb))
   go_ret
   exact ⟨rfl,HXa.out.r.b⟩
  have k20:decide ((20:Int) < (r.e.z.size:Int))=false:=decide_eq_false (by omega)
  have HC:Hid (∀ W,Below w.heap.size w W→Calls Tryz.prog 15 #[.agg cr] W fun e w'=>e=.returned (.int .i64 (repE r))∧Below W.heap.size W w'):=fun W hb=>by
   rw [HCR.out]
   exact qbd r W (HR.out.below hb) FP.out.c
  by_cases hc:chkR r=true
  rotate_left
  ·rw [qgu hc] at HC
   go_wp2_with (first | (go_at_call 6;refine (HF1.out _ HX.out.r.b).mono ?_;rintro _ w1 ⟨rfl,hb⟩;have HX1:=hI (HX.out.next hb);clear hb x1 x2 x3 x4;have x3:=HX1.out.m.box hsm;have x4:=HX1.out.m.rowAt) | (go_at_call 7;refine (HF2.out _).mono ?_;rintro _ w2 ⟨rfl,hb⟩;have HX2:=hI (HX1.out.next hb);clear hb x3 x4;have x1:=HX2.out.r.box hszr;have x2:=HX2.out.r.rowAt;have x3:=HX2.out.m.box hsm;have x4:=HX2.out.m.rowAt;have c7:=HX2.out.r.at_ 7 HQ7.out) | (go_at_call 15;refine (HC.out _ HX2.out.r.b).mono ?_;rintro _ w3 ⟨rfl,hb⟩;have HX3:=hI (HX2.out.next hb);clear hb x1 x2 x3 x4 c7;have x1:=HX3.out.r.box hszr;have x2:=HX3.out.r.rowAt;have x3:=HX3.out.m.box hsm;have x4:=HX3.out.m.rowAt) | (go_at_call 8;refine (AW.out _).mono ?_;rintro _ w9 ⟨rfl,hb⟩;have HXa:=hI (HX3.out.next hb);clear hb))
   go_ret
   exact ⟨rfl,HXa.out.r.b⟩
  rw [qcj hc] at HC
  have HCK:=hI hc
  clear hc h20
  have HT:Hid (∀ W,Below w.heap.size w W→Calls Tryz.prog 16 #[.agg cr] W fun e w'=>(∃ (s:RP) (ca:Array Value) (x:RW OU),e=.returned (.tuple #[.agg ca,.slice x.A x.z.size x.c])∧ca=(encP s).toArray∧TickG r s x.z.toList w'∧x.z.size≤1000∧SepR r W.heap.size w' s∧RdN qbw 15 w' x)∧Below W.heap.size W w'):=fun W hb=>by
   rw [HCR.out]
   exact (qyg r W (HR.out.below hb) FP.out.m').mono fun e w' ⟨⟨s,x,h1,h2,h3,h4⟩,h5⟩=>⟨⟨s,_,x,h1,rfl,h2.good HCK.out FP.out.m',h2.len HCK.out FP.out.m',h3,h4⟩,h5⟩
  have HP1:Hid (∀ W,Below w.heap.size w W→Calls Tryz.prog 9 #[.agg cr,.agg cm] W fun e w'=>(∃ (s:RP) (c:Array Value),e=.returned (.tuple #[.agg c,.slice none 0 0])∧c=(encP s).toArray∧OnPrR r m s∧SepR r W.heap.size w' s)∧Below W.heap.size W w'):=fun W hb=>onPrL (qqx r m W (HR.out.below hb) (HM.out.next hb) FP.out) HCR.out HCM.out
  have HN1:Hid (∀ W,Below w.heap.size w W→Calls Tryz.prog 13 #[.agg cr,.int .i64 t] W fun e w'=>(∃ (s:RP) (c:Array Value),e=.returned (.agg c)∧c=(encP s).toArray∧FrontR r t s∧SepR r W.heap.size w' s)∧Below W.heap.size W w'):=fun W hb=>frontL (qoj r t W (HR.out.below hb) FP.out.c) HCR.out
  have HCH:Hid (∀ (s:RP) (c:Array Value),c=(encP s).toArray→chkR s=true→FewC s→∀ W,RdP W s→Calls Tryz.prog 15 #[.agg c] W fun e w'=>e=.returned (.int .i64 0)∧Below W.heap.size W w'):=fun s c h1 h2 h3 W h4=>by
   rw [h1]
   have:=qbd s W h4 h3
   rwa [qcj h2] at this
  go_upto_region 4 with (first | (go_at_call 6;refine (HF1.out _ HX.out.r.b).mono ?_;rintro _ w1 ⟨rfl,hb⟩;have HX1:=hI (HX.out.next hb);clear hb x1 x2 x3 x4;have x3:=HX1.out.m.box hsm;have x4:=HX1.out.m.rowAt) | (go_at_call 7;refine (HF2.out _).mono ?_;rintro _ w2 ⟨rfl,hb⟩;have HX2:=hI (HX1.out.next hb);clear hb x3 x4;have x1:=HX2.out.r.box hszr;have x2:=HX2.out.r.rowAt;have x3:=HX2.out.m.box hsm;have x4:=HX2.out.m.rowAt;have c7:=HX2.out.r.at_ 7 HQ7.out) | (go_at_call 15;refine (HC.out _ HX2.out.r.b).mono ?_;rintro _ w3 ⟨rfl,hb⟩;have HX3:=hI (HX2.out.next hb);clear hb x1 x2 x3 x4 c7;have x1:=HX3.out.r.box hszr;have x2:=HX3.out.r.rowAt;have x3:=HX3.out.m.box hsm;have x4:=HX3.out.m.rowAt) | (go_at_call 16;refine (HT.out _ HX3.out.r.b).mono ?_;rintro _ w4 ⟨⟨a,ca,x,rfl,hca,htg,hxl,hsa,hrx⟩,hb⟩;have HX4:=hI (HX3.out.next hb);have HSA:=hI hsa;have HCA:=hI hca;have HTG:=hI htg;have HRX:=hI hrx;obtain ⟨hsza,honea⟩:=rowP hca;clear hb hca htg hsa hrx x1 x2 x3 x4))
  have HX5:=hI (HX4.out.next (bel1 w4 (.cells ca 35)))
  have HBA:=hI (BoxG.newB HX4.out.r.b ca 35)
  have HRA:=hI ((HSA.out.rd (HR.out.below HX4.out.r.b)).below (bel1 w4 (.cells ca 35)))
  have HRX5:=hI (HRX.out.below (bel1 w4 (.cells ca 35)))
  have HGO5:Hid (∀ o ∈ x.z.toList,qqa r.n r.self o∧RdM (w4.alloc (.cells ca 35)) o.m):=hI fun o ho=>⟨(HTG.out.good o ho).1,(HTG.out.good o ho).2.next (bel1 w4 _)⟩
  obtain ⟨p,hp⟩:∃ N,w4.heap.size=N:=⟨_,rfl⟩
  rw [hp] at HBA ⊢
  generalize w4.alloc (.cells ca 35)=w5 at HX5 HBA HRA HRX5 HGO5 ⊢
  clear hp HSA HRX
  have x1:=HX5.out.r.box hszr
  have x2:=HX5.out.r.rowAt
  have x3:=HX5.out.m.box hsm
  have x4:=HX5.out.m.rowAt
  go_upto_region 5 with (go_at_call 9;refine (HP1.out _ HX5.out.r.b).mono ?_;rintro _ w6 ⟨⟨b,cb,rfl,hcb,hob,hsb⟩,hb⟩;have HX6:=hI (HX5.out.next hb);have HBA6:=hI (HBA.out.next hb);have HRA6:=hI (HRA.out.below hb);have HRX6:=hI (HRX5.out.below hb);have HGO6:Hid (∀ o ∈ x.z.toList,qqa r.n r.self o∧RdM w6 o.m):=hI (fun o ho=>⟨(HGO5.out o ho).1,(HGO5.out o ho).2.next hb⟩);have HOB:=hI hob;have HSB:=hI hsb;have HCB:=hI hcb;obtain ⟨hszb,honeb⟩:=rowP hcb;clear hb hcb hob hsb x1 x2 x3 x4)
  have HX7:=hI (HX6.out.next (bel1 w6 (.cells cb 35)))
  have HBA7:=hI (HBA6.out.next (bel1 w6 (.cells cb 35)))
  have HBB7:=hI (BoxG.newB HX6.out.r.b cb 35)
  have HRA7:=hI (HRA6.out.below (bel1 w6 (.cells cb 35)))
  have HRB7:=hI ((HSB.out.rd (HR.out.below HX6.out.r.b)).below (bel1 w6 (.cells cb 35)))
  have HRX7:=hI (HRX6.out.below (bel1 w6 (.cells cb 35)))
  have HGO7:Hid (∀ o ∈ x.z.toList,qqa r.n r.self o∧RdM (w6.alloc (.cells cb 35)) o.m):=hI fun o ho=>⟨(HGO6.out o ho).1,(HGO6.out o ho).2.next (bel1 w6 _)⟩
  obtain ⟨q,hq⟩:∃ N,w6.heap.size=N:=⟨_,rfl⟩
  rw [hq] at HBB7 ⊢
  generalize w6.alloc (.cells cb 35)=w7 at HX7 HBA7 HBB7 HRA7 HRB7 HRX7 HGO7 ⊢
  clear hq HSB
  have x1:=HX7.out.r.box hszr
  have x2:=HX7.out.r.rowAt
  go_upto_region 6 with (go_at_call 13;refine (HN1.out _ HX7.out.r.b).mono ?_;rintro _ w8 ⟨⟨c,cc,rfl,hcc,hoc,hsc⟩,hb⟩;have HX8:=hI (HX7.out.next hb);have HBA8:=hI (HBA7.out.next hb);have HBB8:=hI (HBB7.out.next hb);have HRA8:=hI (HRA7.out.below hb);have HRB8:=hI (HRB7.out.below hb);have HRX8:=hI (HRX7.out.below hb);have HGO8:Hid (∀ o ∈ x.z.toList,qqa r.n r.self o∧RdM w8 o.m):=hI (fun o ho=>⟨(HGO7.out o ho).1,(HGO7.out o ho).2.next hb⟩);have HOC:=hI hoc;have HSC:=hI hsc;have HCC:=hI hcc;obtain ⟨hszc,honec⟩:=rowP hcc;clear hb hcc hoc hsc x1 x2)
  have hbl:=bel1 w8 (.cells cc 35)
  have K9:Hid (KpW w r a b c x cr cm ca cb cc p q w8.heap.size (w8.alloc (.cells cc 35))):=hI ⟨HX8.out.next hbl,HBA8.out.next hbl,HBB8.out.next hbl,BoxG.newB HX8.out.r.b cc 35,HRA8.out.below hbl,HRB8.out.below hbl,(HSC.out.rd (HR.out.below HX8.out.r.b)).below hbl,HRX8.out.below hbl,fun o ho=>⟨(HGO8.out o ho).1,(HGO8.out o ho).2.next hbl⟩⟩
  obtain ⟨s,hs⟩:∃ N,w8.heap.size=N:=⟨_,rfl⟩
  rw [hs] at K9 ⊢
  generalize w8.alloc (.cells cc 35)=w9 at K9 ⊢
  clear hs hbl HSC HX1 HX2 HX3 HX4 HX5 HX6 HX7 HX8 HBA HBA6 HBA7 HBA8 HBB7 HBB8 HRA HRA6 HRA7 HRA8 HRB7 HRB8 HRX5 HRX6 HRX7 HRX8 HGO5 HGO6 HGO7 HGO8 HT HP1 HN1
  have HQA:Hid (ca[3]?=some (.int .i64 a.clock)):=by show _=_;rw [HCA.out];rfl
  have HCKA:=hI (HCH.out a ca HCA.out HTG.out.chk HTG.out.few)
  have HCKB:=hI (HCH.out b cb HCB.out ((HOB.out.good FP.out).2 HCK.out) (HOB.out.good FP.out).1)
  have HCKC:=hI (HCH.out c cc HCC.out ((HOC.out.good FP.out.c).2 HCK.out) (HOC.out.good FP.out.c).1)
  have HTO:Hid (∀ W,KpW w r a b c x cr cm ca cb cc p q s W→Calls Tryz.prog 17 #[.agg cr,.slice x.A x.z.size x.c] W fun e w'=>e=.returned (.bool true)∧Below W.heap.size W w'):=fun W hW=>by
   rw [HCR.out]
   exact qyh r x W hW.rx (by omega) hW.g
  clear HCH
  have hclk:decide (a.clock < r.clock)=false:=decide_eq_false (by have:=HTG.out.clock;omega)
  obtain ⟨x1,x2,y1,y2,z1,z2,u1,u2,c3,a3⟩:=K9.out.all hszr hsza hszb hszc HQ3.out HQA.out
  go_upto_region 8 with (first
   | (with_reducible (go_at_call 15;refine (HCKA.out _ K9.out.ra).mono ?_);rintro _ w10 ⟨rfl,hb⟩;have K10:=hI (K9.out.next hb);clear hb x1 x2 y1 y2 z1 z2 u1 u2 c3 a3;obtain ⟨x1,x2,y1,y2,z1,z2,u1,u2,c3,a3⟩:=K10.out.all hszr hsza hszb hszc HQ3.out HQA.out)
   | (with_reducible (go_at_call 15;refine (HCKB.out _ K10.out.rb).mono ?_);rintro _ w11 ⟨rfl,hb⟩;have K11:=hI (K10.out.next hb);clear hb x1 x2 y1 y2 z1 z2 u1 u2 c3 a3;obtain ⟨x1,x2,y1,y2,z1,z2,u1,u2,c3,a3⟩:=K11.out.all hszr hsza hszb hszc HQ3.out HQA.out)
   | (with_reducible (go_at_call 15;refine (HCKC.out _ K11.out.rc).mono ?_);rintro _ w12 ⟨rfl,hb⟩;have K12:=hI (K11.out.next hb);clear hb x1 x2 y1 y2 z1 z2 u1 u2 c3 a3;obtain ⟨x1,x2,y1,y2,z1,z2,u1,u2,c3,a3⟩:=K12.out.all hszr hsza hszb hszc HQ3.out HQA.out)
   | (go_at_call 17;refine (HTO.out _ K12.out).mono ?_;rintro _ w13 ⟨rfl,hb⟩;have K13:=hI (K12.out.next hb);clear hb x1 x2 y1 y2 z1 z2 u1 u2 c3 a3;obtain ⟨x1,x2,y1,y2,z1,z2,u1,u2,c3,a3⟩:=K13.out.all hszr hsza hszb hszc HQ3.out HQA.out))
  have c0:=K13.out.X.r.at_ 0 HQ0.out
  have HCN:=hI HTG.out.cnt
  have HLEN:Hid (x.z.toList.length=x.z.size):=by show _=_;simp
  have hn9:=qdk HCK.out
  go_wp2
  go_loop [12,13] (fun nn i=>∃ k:Nat,nn=.int .i64 (cntP (x.z.toList.take k):Nat)∧i=.int .i64 k∧k≤x.z.size∧cntP (x.z.toList.take k)≤k) (fun _ i=>x.z.size - (intOf i).toNat)
  case atStart=>exact ⟨0,rfl,rfl,Nat.zero_le _,Nat.le_refl _⟩
  case round =>
   obtain ⟨k,rfl,rfl,hk,hck⟩:=hrel
   by_cases hlt:k < x.z.size
   ·have kz:(k:Int) < (x.z.size:Int):=by omega
    obtain ⟨b2,off,hA,hbl,f⟩:=K13.out.rx.rd.at_ (i:=k) hlt
    have hl:k < x.z.toList.length:=by rw [HLEN.out];exact hlt
    have hct:=cntP_take hl
    have hel:x.z.toList[k]=x.z[k]!:=by rw [getElem!_pos x.z k hlt];simp
    rw [hel] at hct
    obtain ⟨o,ho⟩:∃ o,x.z[k]! = o:=⟨_,rfl⟩
    rw [ho] at f hct
    obtain ⟨tt,mm⟩:=o
    have e1:=f 1 (by omega)
    simp only [qbw,msgC,List.getElem!_cons_zero,List.getElem!_cons_succ] at e1 hct
    clear f ho hel hl
    obtain ⟨C,hC⟩:∃ C,cntP (x.z.toList.take k)=C:=⟨_,rfl⟩
    obtain ⟨D,hD⟩:∃ C,cntP (x.z.toList.take (k + 1))=C:=⟨_,rfl⟩
    rw [hC] at hck ⊢
    rw [hC,hD] at hct
    have HD:=hI hD
    clear hC hD
    rw [hA]
    by_cases h10:mm.k=10
    ·rw [if_pos h10] at hct
     have e10:(mm.k == 10)=true:=beq_iff_eq.2 h10
     go_wp2
     go_round
     case rel=>exact ⟨k + 1,by rw [HD.out];go_num,by go_num,by omega,by rw [HD.out];omega⟩
     case measure=>simp [intOf];omega
    ·rw [if_neg h10] at hct
     have e10:(mm.k == 10)=false:=beq_eq_false_iff_ne.2 h10
     go_wp2
     go_round
     case rel=>exact ⟨k + 1,by rw [HD.out,hct];rfl,by go_num,by omega,by rw [HD.out];omega⟩
     case measure=>simp [intOf];omega
   ·have hlt':decide ((k:Int) < (x.z.size:Int))=false:=decide_eq_false (by omega)
    obtain rfl:k=x.z.size:=by omega
    have htk:x.z.toList.take x.z.size=x.z.toList:=by rw [←HLEN.out];exact List.take_length
    rw [htk] at hck ⊢
    obtain ⟨C,hC⟩:∃ C,cntP x.z.toList=C:=⟨_,rfl⟩
    rw [hC] at hck ⊢ HCN
    have hcn:(C:Int)=r.n - 1:=HCN.out
    have e14:((C:Int) == r.n - 1)=true:=beq_iff_eq.2 hcn
    go_wp2_with (go_at_call 8;refine (AW.out _).mono ?_;rintro _ w15 ⟨rfl,hb⟩;have K15:=hI (K13.out.next hb);clear hb)
    go_ret
    exact ⟨rfl,K15.out.X.r.b⟩
 exact hgoal _ _ HCR.out HCM.out
end Go.Proofs.YtlkmagmdhopcjaaGreat
