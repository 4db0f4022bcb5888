/- Texts that the law leans on. -/
import Derived.Defers
import Derived.Test.YtlkmagmdhopcjaaGreatMRgP
import Derived.Test.YtlkmagmdhopcjaaGreatMGoC
import Derived.Test.YtlkmagmdhopcjaaGreatMStableK
import Derived.BigGuardPart
namespace Go.Proofs.YtlkmagmdhopcjaaGreat
open Go.RowKit Go.Sort Go.Lib
set_option maxRecDepth 100000
attribute [local go_sem ↓] qak qai qdk qed
attribute [local go_sem] qao qaj qah qaq qbd qgz qho qhp
theorem qdv {fn:Func} {t u:Tmp} (hf:fn.results=#[.cell t 35,.cell u 41]) {tm:Array Value} {W:World} {g q:Nat} {cs:Array Value} {A:Option Addr} {n c:Nat} {T T':TypeId} (hg:tm.getD t undef=.pointer (some ⟨g,0,none⟩)) (hq:tm.getD u undef=.pointer (some ⟨q,0,none⟩)) (h:W.heap[g]?=some (.cells cs T (0,0))) (hc:cs.size=18) (h2:W.heap[q]?=some (.cells #[.slice A n c] T' (0,0))):(results fn tm).run Tryz.prog W=.ok (.tuple #[.agg cs,.slice A n c]) W:=by
 have hg2:tm[t]?.getD undef=.pointer (some ⟨g,0,none⟩):=by rw [←Array.getD_eq_getD_getElem?];exact hg
 have hq2:tm[u]?.getD undef=.pointer (some ⟨q,0,none⟩):=by rw [←Array.getD_eq_getD_getElem?];exact hq
 have c0:W.cell? ⟨q,0,none⟩=some (.slice A n c):=(cell_of_row W _ 0 _ _ (0,0) h2).trans rfl
 have hx:(loadVar 41 ⟨q,0,none⟩).run Tryz.prog W=.ok (.slice A n c) W:=by
  simp [go_sem,loadVar,c0]
 simp [results,hf,hg2,hq2,asAddr,qfo h hc,hx]
theorem qvx {t:RP} {e:EN} {B:Int} {u:RP} {p:EN} (h:RprR t e B u p true) (hf:FewC t) (ho:t.o.z.size≤999) (hp:e.pay.size≤1000) (hc:chkR t=true):(chkR u=true∧FewC u)∧p.z=#[]∧p.A=none∧p.c=0∧p.pay.size≤1000:=by
 rcases h with ⟨h1,_⟩ | ⟨_,r1,t1,h2,h3,h4,h5,h6⟩
 ·cases h1
 ·obtain ⟨a1,a2,a3,a4⟩:=prB_nil e B t1
  have hf1:FewC r1:=by
   rcases h2 with ⟨_,rfl,_⟩ | ⟨_,h2⟩
   ·exact hf
   ·exact qvw hf ho h2
  rw [h3] at h4 h6 ⊢
  have:=qpx (y:=u.e) hf1 h4 h6 (by rw [a2];exact Nat.zero_le _) (by rw [a4];exact hp)
  rw [←h5] at this
  exact ⟨this,a2,a1,a3,by rw [a4];exact hp⟩
structure StW (w:World) (cs co:Array Value) (A:Option Addr) (k c:Nat) (W:World):Prop where
 x:BoxG w w.heap.size cs 35 W
 o:BoxG w (w.heap.size + 1) co 35 W
 l:BoxG w (w.heap.size + 1 + 1) #[.slice A k c] 41 W
theorem StW.next {w W W':World} {cs co:Array Value} {A:Option Addr} {k c:Nat} (h:StW w cs co A k c W) (hb:Below W.heap.size W W'):StW w cs co A k c W':=⟨h.x.next hb,h.o.next hb,h.l.next hb⟩
theorem StW.rowTo {w W:World} {cs co:Array Value} {A:Option Addr} {k c:Nat} (h:StW w cs co A k c W) {g:Nat} (hg:w.heap.size + 1 + 1 < g) (d:Array Value):StW w cs co A k c (W.setRow g d):=⟨h.x.rowTo (by omega) (by omega),h.o.rowTo (by omega) (by omega),h.l.rowTo (by omega) (by omega)⟩
theorem belA {B:Nat} {w W W':World} (h:Below B w W) (hb:Below W.heap.size W W') (hB:B < W.heap.size):Below B w W':=h.trans (hb.mono (by omega))
structure RgC (t:RP) (w w6:World) (cs c1:Array Value) (a:Nat) (p u:EN) (cq:Array Value) (oka:Bool) (W:World):Prop where
 q:cq=(encE u).toArray
 ok:oka=qqg p (ansK t.self p)
 u1:oka=true→u={ p with A:=u.A,c:=u.c,z:=p.z.push (ansK t.self p) }
 s:StW w cs cs none 0 0 W
 ba:BoxG w a c1 35 W
 bm:BoxG w (a + 1) cq 58 W
 b6:Below a w6 W
 ru:RdE W u
 fu:FreshA (a + 1 + 1) u.A
theorem rgC_of {t:RP} {w w6 W:World} {cs c1:Array Value} {a B:Nat} {p u:EN} {cp cq:Array Value} {oka:Bool} (hs:StW w cs cs none 0 0 W) (hA:BoxG w a c1 35 W) (hM:BoxG w (a + 1) cp 58 W) (h6:Below a w6 W) (hq:cq=(encE u).toArray) (hok:oka=qqg p (ansK t.self p)) (h0:oka=false→u=p)
 (h1:oka=true→u={ p with A:=u.A,c:=u.c,z:=p.z.push (ansK t.self p) }∧RdK encK 6 W.heap.size W u.A u.z∧u.z.size≤u.c∧FreshA B u.A) (hB:a + 1 < B) (hp:∀ W,RdE W p) (hpz:p.z=#[]∧p.A=none∧p.pay.size≤1000) (hwa:w.heap.size + 1 + 1 < a):RgC t w w6 cs c1 a p u cq oka (W.setRow (a + 1) cq):=by
 refine ⟨hq,hok,fun h=>(h1 h).1,hs.rowTo (by omega) _,hA.rowTo (by omega) (by omega),hM.rowOn (by omega),qbk h6 (by omega) _,?_,?_⟩
 ·cases oka
  ·rw [h0 rfl];exact hp _
  ·obtain ⟨a1,a2,a3,a4⟩:=h1 rfl
   have hz:u.z.size=1:=by rw [a1,hpz.1];rfl
   have hy:u.pay=p.pay:=by rw [a1]
   refine ⟨?_,a3,by omega,by rw [hy];exact hpz.2.2⟩
   rw [show (W.setRow (a + 1) cq).heap.size=W.heap.size by simp]
   exact a2.farG (g:=a + 1) (fun _ x hx=>by have:=a4 x hx;omega) (fun b hb=>setRow_other _ _ b _ hb)
 ·cases oka
  ·rw [h0 rfl,hpz.2.1];exact fun x hx=>by cases hx
  ·exact ((h1 rfl).2.2.2).mono (by omega)
theorem RgC.next {t:RP} {w w6 W W':World} {cs c1:Array Value} {a:Nat} {p u:EN} {cq:Array Value} {oka:Bool} (h:RgC t w w6 cs c1 a p u cq oka W) (hb:Below W.heap.size W W'):RgC t w w6 cs c1 a p u cq oka W' :=
 ⟨h.q,h.ok,h.u1,h.s.next hb,h.ba.next hb,h.bm.next hb,belA h.b6 hb h.ba.lt,h.ru.below hb,h.fu⟩
theorem start_sep {t u1:RP} {u:EN} {y:RW EN} {w w6 w12 W:World} {a q:Nat} (h:SepR t q w6 u1) (ha:w6.heap.size=a) (h6:∀ j,q≤j→j < a→W.heap[j]?=w6.heap[j]?) (h12:∀ j,a + 1 + 1≤j→j < w12.heap.size→W.heap[j]?=w12.heap[j]?) (hs:w12.heap.size≤W.heap.size) (haw:a≤w12.heap.size) (hq:w.heap.size≤q) (hwa:w.heap.size≤a)
 (hy:y.z=putD u1.e.z u) (hr:RdK encE 10 w12.heap.size w12 y.A y.z) (ru:RdE w12 u) (fu:FreshA (a + 1 + 1) u.A) (fy:FreshA (a + 1 + 1) y.A):SepR t w.heap.size W { u1 with e:=y }:=fun V hP ho hz=>by
 refine qtx (w1:=w12) (B:=a + 1 + 1) hy hr fy (fun V' _ h2 h3=>⟨ru.rd.sepG fu h2 h3,ru.cz⟩) V (h V hP (fun j j1 j2=>(ho j (by omega) (by omega)).trans (h6 j j1 (by omega))) (by omega)) (fun j j1 j2=>?_) (by omega)
 by_cases hj:w.heap.size≤j
 ·exact (ho j hj (by omega)).trans (h12 j j1 j2)
 ·omega
set_option maxHeartbeats 1000000 in
theorem qvy (l a o:Nat) (A:Option Addr) (k c:Nat) (c2 co:Array Value) (T1 T2 T3:TypeId) (u:FrameMode) (w:World) (h1:w.heap[l]?=some (.cells #[.slice A k c] T1 (0,0))) (h2:w.heap[a]?=some (.cells c2 T2 (0,0))) (h3:w.heap[o]?=some (.cells co T3 (0,0))) (hc:c2.size=18) (hc1:qbt c2=true) (ho:co.size=18) :
 CallsD Tryz.prog 133 #[.pointer (some ⟨l,0,none⟩),.pointer (some ⟨a,0,none⟩),.pointer (some ⟨o,0,none⟩)] u w fun e u' w'=>u'=u∧(e=.returned (.tuple #[])∧w'=if k=0 then w else w.setRow o c2):=by
 have l0:w.cell? ⟨l,0,none⟩=some (.slice A k c):=(cell_of_row w _ 0 _ _ (0,0) h1).trans rfl
 have x1:=qbl h2 hc
 have x2:=qcf h2
 have x3:=qbl h3 ho
 clear h1 h2 h3
 by_cases hk:k=0
 ·subst hk
  rw [if_pos rfl]
  go_enter_d Tryz.func133,Tryz.ntmps133
  go_wp2
  go_end0
  exact ⟨rfl,rfl⟩
 ·have hk1:decide ((0:Int) < (k:Int))=true:=decide_eq_true (by omega)
  rw [if_neg hk]
  go_enter_d Tryz.func133,Tryz.ntmps133
  go_wp2
  go_end0
  exact ⟨rfl,rfl⟩
set_option maxHeartbeats 16000000 in
theorem qyi (t:RP) (id:Int) (w:World) (h:RdP w t) (hf:FewC t) (ho9:t.o.z.size≤999) (hc:chkR t=true) :
 Calls Tryz.prog 53 #[.agg (encP t).toArray,.int .i64 id] w fun x w'=>StartO StP t id w x w':=by
 have HC:Hid (∀ W,Below w.heap.size w W→Calls Tryz.prog 15 #[.agg (encP t).toArray] W fun e w'=>e=.returned (.int .i64 0)∧Below W.heap.size W w'):=fun W hb=>by
  have:=qbh t W (h.below hb) hf
  rwa [qcw hc] at this
 have HF:Hid (∀ W,Below w.heap.size w W→Calls Tryz.prog 19 #[.slice t.e.A t.e.z.size t.e.c,.int .i64 id] W fun x w'=>(∃ (e:EN) (ok:Bool) (ce:Array Value),x=.returned (.tuple #[.agg ce,.bool ok])∧ce=(encE e).toArray∧FindR t.e.z id (e,ok))∧Below W.heap.size W w'):=fun W hb=>by
  refine (qsn t.e.A t.e.c t.e.z id W (h.e.below hb) (by have:=hf.es;omega)).mono fun x w' ⟨⟨r,h1,h2⟩,h3⟩=>⟨⟨r.1,r.2,_,h1,rfl,h2⟩,h3⟩
 have HG:Hid (∀ e,FindR t.e.z id (e,true)→qit e.ph=true→qjv (max e.bal e.seen) t.self t.n=0→∀ (ce:Array Value),ce=(encE e).toArray→∀ W,Below w.heap.size w W→Calls Tryz.prog 132 #[.agg (encP t).toArray,.agg ce,.int .i64 (qim (max e.bal e.seen) t.self t.n)] W fun x w'=>(∃ (s:RP) (p:EN) (ok:Bool) (c1 cp:Array Value),x=.returned (.tuple #[.agg c1,.agg cp,.bool ok])∧c1=(encP s).toArray∧cp=(encE p).toArray∧RprR t e (qim (max e.bal e.seen) t.self t.n) s p ok∧SepR t W.heap.size w' s)∧Below W.heap.size W w'):=fun e hfi hop hnx ce hce W hb=>by
  obtain ⟨i,hi,hie,_⟩:=qjs hfi
  have hck:qcp e=true:=by rw [←hie];exact tab_at (qob hc) hi
  obtain ⟨hh,hn⟩:=en_head hck
  have he:RdE W e:=by rw [←hie];exact ((h.below hb).tab hf).el i hi
  obtain ⟨hv,hbl⟩:=next_good hnx
  rw [hce]
  refine (qru t e _ W (h.below hb) he hf ho9 hc hck ?_ hv hbl ⟨hh.1,hh.2.1,hh.2.2.1⟩).mono fun x w' ⟨⟨s,p,ok,h1,h2,h3⟩,h4⟩=>⟨⟨s,p,ok,_,_,h1,rfl,rfl,h2,h3⟩,h4⟩
  unfold qit at hop
  unfold qee
  have:=of_decide_eq_true hop
  exact decide_eq_false (by omega)
 have HRD:=hI h
 have HFC:=hI hf
 have HCK:=hI hc
 have HO9:=hI ho9
 obtain ⟨cs,hcs⟩:∃ cs,cs=(encP t).toArray:=⟨_,rfl⟩
 obtain ⟨hsz,hone⟩:=rowP hcs
 have HQ0:Hid (cs[0]?=some (.int .i64 t.n)):=by show _=_;rw [hcs];rfl
 have HQ2:Hid (cs[2]?=some (.int .i64 t.self)):=by show _=_;rw [hcs];rfl
 have HQ7:Hid (cs[7]?=some (.slice t.e.A t.e.z.size t.e.c)):=by show _=_;rw [hcs];rfl
 have HCS:=hI hcs
 have hmf:∀ (fn:Fn) (first cap:Array Value) (w:World),(Instr.makeFunc fn first cap).run Tryz.prog w=.ok (.func fn first cap) w:=fun _ _ _ _=>rfl
 rw [←hcs] at HC HG ⊢
 clear h hf ho9 hc hcs
 go_enter_defers Tryz.func53,Tryz.ntmps53
 go_upto_region 1 with fail
 have HX0:=hI (BoxG.t1 w cs qbp #[.slice none 0 0] 35 35 41)
 have HO0:=hI (BoxG.t2 w cs qbp #[.slice none 0 0] 35 35 41)
 have HL0:=hI (BoxG.t3 w cs qbp #[.slice none 0 0] 35 35 41)
 simp only [qbp] at HX0 HO0 HL0
 generalize (((w.alloc (.cells cs 35)).alloc (.cells #[.int .i64 0,.int .i64 0,.int .i64 0,.int .i64 0,.int .i64 0,.int .i64 0,.int .i64 0,.slice none 0 0,.slice none 0 0,.slice none 0 0,.slice none 0 0,.slice none 0 0,.slice none 0 0,.int .i64 0,.int .i64 0,.int .i64 0,.slice none 0 0,.slice none 0 0] 35)).alloc (.cells #[.slice none 0 0] 41))=w0 at HX0 HO0 HL0 ⊢
 obtain ⟨n,hn⟩:∃ n,w.heap.size=n:=⟨_,rfl⟩
 have HNW:=hI hn
 have x1:=HX0.out.box hsz
 have x2:=HX0.out.rowAt
 have o1:=HO0.out.box (n:=18) rfl
 rw [hn] at x1 x2 o1 ⊢
 go_upto_region 2 with fail
 have HS1:Hid (StW w cs cs none 0 0 (w0.setRow (n + 1) cs)):=hI ⟨HX0.out.rowTo (by omega) (by omega),by rw [←hn];exact HO0.out.rowOn (by omega),HL0.out.rowTo (by omega) (by omega)⟩
 generalize w0.setRow (n + 1) cs=w1 at HS1 ⊢
 clear HX0 HO0 HL0 x1 x2 o1
 have c7:=HS1.out.x.at_ 7 HQ7.out
 rw [hn] at c7
 go_upto_region 3 with (go_at_call 19;refine (HF.out _ HS1.out.x.b).mono ?_;rintro _ w2 ⟨⟨e,ok,ce,rfl,hce,hfi⟩,hb⟩;have HS2:=hI (HS1.out.next hb);have HFI:=hI hfi;have HCE:=hI hce;have hs1:ce.size=10:=(by rw [hce];rfl);have ho1:qbt ce=true:=(by rw [hce];exact qep e);clear hb hfi hce c7)
 have HS3:=hI (HS2.out.next (bel1 w2 (.cells ce 58)))
 have HQ3:=hI (BoxG.newB HS2.out.x.b ce 58)
 have hlq:n + 1 + 1 < w2.heap.size:=by rw [←hn];exact HS2.out.l.lt
 obtain ⟨q,hq⟩:∃ q,w2.heap.size=q:=⟨_,rfl⟩
 rw [hq] at HQ3 hlq ⊢
 generalize w2.alloc (.cells ce 58)=w3 at HS3 HQ3 ⊢
 clear hq HS1 HS2 HF
 have HE1:Hid (ce[1]?=some (.int .i64 e.ph)):=by show _=_;rw [HCE.out];rfl
 have HE4:Hid (ce[4]?=some (.int .i64 e.bal)):=by show _=_;rw [HCE.out];rfl
 have HE6:Hid (ce[6]?=some (.int .i64 e.seen)):=by show _=_;rw [HCE.out];rfl
 have hnw:=hn
 clear hn
 have x1:=HS3.out.x.box hsz
 have x2:=HS3.out.x.rowAt
 have c0:=HS3.out.x.at_ 0 HQ0.out
 have c2:=HS3.out.x.at_ 2 HQ2.out
 have y1:=HQ3.out.box hs1
 have y2:=HQ3.out.rowAt
 have p1:=HQ3.out.at_ 1 HE1.out
 have p4:=HQ3.out.at_ 4 HE4.out
 have p6:=HQ3.out.at_ 6 HE6.out
 rw [HNW.out] at x1 x2 c0 c2
 have HRE:Hid (∀ W,StW w cs cs none 0 0 W→StartO StP t id w (.returned (.tuple #[.agg cs,.slice none 0 0])) W):=fun W hW=>⟨⟨t,⟨none,0,#[]⟩,by rw [HCS.out];rfl,Or.inl ⟨rfl,rfl⟩,SepR.self _ _ _,fun h=>absurd h (by decide),fun _=>rfl⟩,hW.x.b⟩
 cases ok
 ·go_wp2_with (go_at_call 15;refine (HC.out _ HS3.out.x.b).mono ?_;rintro _ w4 ⟨rfl,hb⟩;have HS4:=hI (HS3.out.next hb);have HQ4:=hI (HQ3.out.next hb);clear hb x1 x2 c0 c2 y1 y2 p1 p4 p6;have x1:=HS4.out.x.box hsz;have x2:=HS4.out.x.rowAt;have c0:=HS4.out.x.at_ 0 HQ0.out;have c2:=HS4.out.x.at_ 2 HQ2.out;have y1:=HQ4.out.box hs1;have y2:=HQ4.out.rowAt;have p1:=HQ4.out.at_ 1 HE1.out;have p4:=HQ4.out.at_ 4 HE4.out;have p6:=HQ4.out.at_ 6 HE6.out;rw [HNW.out] at x1 x2 c0 c2)
  have z1:=HS4.out.o.row
  have z2:=HS4.out.l.row
  rw [hnw] at z1 z2
  exact ⟨_,qdv rfl rfl rfl z1 hsz z2,HRE.out _ HS4.out⟩
 obtain ⟨op,hop⟩:∃ b,qit e.ph=b:=⟨_,rfl⟩
 have HOP:Hid (∀ W,Calls Tryz.prog 61 #[.int .i64 e.ph] W fun x w'=>x=.returned (.bool op)∧W=w'):=fun W=>hop ▸ (qhv e.ph W).mono fun _ _ h=>⟨h.1,h.2.symm⟩
 have HO:=hI hop
 clear hop
 cases op
 ·go_wp2_with (first | (go_at_call 15;refine (HC.out _ HS3.out.x.b).mono ?_;rintro _ w4 ⟨rfl,hb⟩;have HS4:=hI (HS3.out.next hb);have HQ4:=hI (HQ3.out.next hb);clear hb x1 x2 c0 c2 y1 y2 p1 p4 p6;have x1:=HS4.out.x.box hsz;have x2:=HS4.out.x.rowAt;have c0:=HS4.out.x.at_ 0 HQ0.out;have c2:=HS4.out.x.at_ 2 HQ2.out;have y1:=HQ4.out.box hs1;have y2:=HQ4.out.rowAt;have p1:=HQ4.out.at_ 1 HE1.out;have p4:=HQ4.out.at_ 4 HE4.out;have p6:=HQ4.out.at_ 6 HE6.out;rw [HNW.out] at x1 x2 c0 c2) | (go_at_call 61;refine (HOP.out _).mono ?_;rintro _ _ ⟨rfl,rfl⟩))
  have z1:=HS4.out.o.row
  have z2:=HS4.out.l.row
  rw [hnw] at z1 z2
  exact ⟨_,qdv rfl rfl rfl z1 hsz z2,HRE.out _ HS4.out⟩
 go_upto_region 4 with (first | (go_at_call 15;refine (HC.out _ HS3.out.x.b).mono ?_;rintro _ w4 ⟨rfl,hb⟩;have HS4:=hI (HS3.out.next hb);have HQ4:=hI (HQ3.out.next hb);clear hb x1 x2 c0 c2 y1 y2 p1 p4 p6;have x1:=HS4.out.x.box hsz;have x2:=HS4.out.x.rowAt;have c0:=HS4.out.x.at_ 0 HQ0.out;have c2:=HS4.out.x.at_ 2 HQ2.out;have y1:=HQ4.out.box hs1;have y2:=HQ4.out.rowAt;have p1:=HQ4.out.at_ 1 HE1.out;have p4:=HQ4.out.at_ 4 HE4.out;have p6:=HQ4.out.at_ 6 HE6.out;rw [HNW.out] at x1 x2 c0 c2) | (go_at_call 61;refine (HOP.out _).mono ?_;rintro _ _ ⟨rfl,rfl⟩))
 have HPY:Hid (e.pay.size≤1000):=by obtain ⟨i,hi,h1,_⟩:=qjs HFI.out;show _≤_;rw [←h1];exact (HFC.out.ee i hi).2
 have HGE:=hI (HG.out e HFI.out HO.out)
 have HNX:Hid (∀ W,Calls Tryz.prog 131 #[.int .i64 (max e.bal e.seen),.int .i64 t.self,.int .i64 t.n] W fun x w'=>x=.returned (.tuple #[.int .i64 (qim (max e.bal e.seen) t.self t.n),.int .i64 (qjv (max e.bal e.seen) t.self t.n)])∧Below W.heap.size W w'):=fun W=>Next_any _ _ _ W
 obtain ⟨B,hB⟩:∃ b,qim (max e.bal e.seen) t.self t.n=b:=⟨_,rfl⟩
 obtain ⟨X,hX⟩:∃ b,qjv (max e.bal e.seen) t.self t.n=b:=⟨_,rfl⟩
 rw [hB,hX] at HNX
 rw [hX] at HGE
 rw [hB] at HGE
 have HBB:=hI hB
 have HXX:=hI hX
 clear hB hX HG
 go_upto_region 5 with (go_at_call 131;refine (HNX.out _).mono ?_;rintro _ w5 ⟨rfl,hb⟩;have HS5:=hI (HS4.out.next hb);have HQ5:=hI (HQ4.out.next hb);clear hb x1 x2 c0 c2 y1 y2 p1 p4 p6;have x1:=HS5.out.x.box hsz;have x2:=HS5.out.x.rowAt;have c0:=HS5.out.x.at_ 0 HQ0.out;have c2:=HS5.out.x.at_ 2 HQ2.out;have y1:=HQ5.out.box hs1;have y2:=HQ5.out.rowAt;have p1:=HQ5.out.at_ 1 HE1.out;have p4:=HQ5.out.at_ 4 HE4.out;have p6:=HQ5.out.at_ 6 HE6.out;rw [HNW.out] at x1 x2 c0 c2)
 by_cases hx0:X=0
 rotate_left
 ·have hx1:(X != 0)=true:=bne_iff_ne.2 hx0
  go_wp2
  have z1:=HS5.out.o.row
  have z2:=HS5.out.l.row
  rw [hnw] at z1 z2
  exact ⟨_,qdv rfl rfl rfl z1 hsz z2,HRE.out _ HS5.out⟩
 subst hx0
 have HGP:=hI (HGE.out rfl ce HCE.out)
 clear HGE
 go_upto_region 7 with (go_at_call 132;refine (HGP.out _ HS5.out.x.b).mono ?_;rintro _ w6 ⟨⟨u1,p,okp,c1,cp,rfl,hc1,hcp,hrp,hsp⟩,hb⟩;have HS6:=hI (HS5.out.next hb);obtain ⟨hsz1,hone1⟩:=rowP hc1;have hp1:cp.size=10:=(by rw [hcp];rfl);have hp2:qbt cp=true:=(by rw [hcp];exact qep _);have HC1:=hI hc1;have HCP:=hI hcp;have HRP:=hI hrp;have HQ6:Hid (q + 1≤w6.heap.size):=(by have h1:=HQ5.out.lt;have h2:=hb.size;show _≤_;omega);have HSP:=hI (SepR.monoG (B':=q + 1) hsp HQ5.out.lt);clear hb hc1 hcp hrp hsp x1 x2 c0 c2 y1 y2 p1 p4 p6;have k1:qap ((w6.alloc (.cells #[.int .i64 0,.int .i64 0,.int .i64 0,.int .i64 0,.int .i64 0,.int .i64 0,.int .i64 0,.slice none 0 0,.slice none 0 0,.slice none 0 0,.slice none 0 0,.slice none 0 0,.slice none 0 0,.int .i64 0,.int .i64 0,.int .i64 0,.slice none 0 0,.slice none 0 0] 35)).alloc (.cells #[.int .i64 0,.int .i64 0,.int .i64 0,.int .i64 0,.int .i64 0,.int .i64 0,.int .i64 0,.int .i64 0,.string ⟨#[]⟩,.slice none 0 0] 58)) w6.heap.size 18=true:=(qbl (qcj (heap_alloc_new w6 _)) rfl);have k2:qap (((w6.alloc (.cells #[.int .i64 0,.int .i64 0,.int .i64 0,.int .i64 0,.int .i64 0,.int .i64 0,.int .i64 0,.slice none 0 0,.slice none 0 0,.slice none 0 0,.slice none 0 0,.slice none 0 0,.slice none 0 0,.int .i64 0,.int .i64 0,.int .i64 0,.slice none 0 0,.slice none 0 0] 35)).alloc (.cells #[.int .i64 0,.int .i64 0,.int .i64 0,.int .i64 0,.int .i64 0,.int .i64 0,.int .i64 0,.int .i64 0,.string ⟨#[]⟩,.slice none 0 0] 58)).setRow w6.heap.size c1) (w6.heap.size + 1) 10=true:=(qbl ((setRow_other _ _ _ _ (by omega)).trans (heap_alloc2_new w6 _ _)) rfl))
 have HGD:=hI (fun (h:okp=true)=>qvx (h ▸ HRP.out) HFC.out HO9.out HPY.out HCK.out)
 have hb67:Below w6.heap.size w6 (((w6.alloc (.cells #[.int .i64 0,.int .i64 0,.int .i64 0,.int .i64 0,.int .i64 0,.int .i64 0,.int .i64 0,.slice none 0 0,.slice none 0 0,.slice none 0 0,.slice none 0 0,.slice none 0 0,.slice none 0 0,.int .i64 0,.int .i64 0,.int .i64 0,.slice none 0 0,.slice none 0 0] 35)).alloc (.cells #[.int .i64 0,.int .i64 0,.int .i64 0,.int .i64 0,.int .i64 0,.int .i64 0,.int .i64 0,.int .i64 0,.string ⟨#[]⟩,.slice none 0 0] 58)).setRow w6.heap.size c1 |>.setRow (w6.heap.size + 1) cp):=qbk (qbk (qab (bel1 w6 _) _) (Nat.le_refl _) _) (by omega) _
 have HS7:=hI (HS6.out.next hb67)
 have hb6w:=HS6.out.x.b
 have hs6w:=hb6w.size
 have HA7:Hid (BoxG w w6.heap.size c1 35 _):=hI ((BoxG.rowOn (g:=w6.heap.size) (c:=c1) (⟨qab (qab hb6w (.cells #[.int .i64 0,.int .i64 0,.int .i64 0,.int .i64 0,.int .i64 0,.int .i64 0,.int .i64 0,.slice none 0 0,.slice none 0 0,.slice none 0 0,.slice none 0 0,.slice none 0 0,.slice none 0 0,.int .i64 0,.int .i64 0,.int .i64 0,.slice none 0 0,.slice none 0 0] 35)) (.cells #[.int .i64 0,.int .i64 0,.int .i64 0,.int .i64 0,.int .i64 0,.int .i64 0,.int .i64 0,.int .i64 0,.string ⟨#[]⟩,.slice none 0 0] 58),qcj (heap_alloc_new w6 _)⟩:BoxG w w6.heap.size #[.int .i64 0,.int .i64 0,.int .i64 0,.int .i64 0,.int .i64 0,.int .i64 0,.int .i64 0,.slice none 0 0,.slice none 0 0,.slice none 0 0,.slice none 0 0,.slice none 0 0,.slice none 0 0,.int .i64 0,.int .i64 0,.int .i64 0,.slice none 0 0,.slice none 0 0] 35 _) hs6w).rowTo (g2:=w6.heap.size + 1) (c:=cp) (by omega) (by omega))
 have HM7:Hid (BoxG w (w6.heap.size + 1) cp 58 _):=hI ((BoxG.rowTo (g:=w6.heap.size + 1) (g2:=w6.heap.size) (c:=c1) (⟨qab (qab hb6w (.cells #[.int .i64 0,.int .i64 0,.int .i64 0,.int .i64 0,.int .i64 0,.int .i64 0,.int .i64 0,.slice none 0 0,.slice none 0 0,.slice none 0 0,.slice none 0 0,.slice none 0 0,.slice none 0 0,.int .i64 0,.int .i64 0,.int .i64 0,.slice none 0 0,.slice none 0 0] 35)) (.cells #[.int .i64 0,.int .i64 0,.int .i64 0,.int .i64 0,.int .i64 0,.int .i64 0,.int .i64 0,.int .i64 0,.string ⟨#[]⟩,.slice none 0 0] 58),heap_alloc2_new w6 _ _⟩:BoxG w (w6.heap.size + 1) #[.int .i64 0,.int .i64 0,.int .i64 0,.int .i64 0,.int .i64 0,.int .i64 0,.int .i64 0,.int .i64 0,.string ⟨#[]⟩,.slice none 0 0] 58 _) (by omega) hs6w).rowOn (c:=cp) (by omega))
 have HB67:=hI hb67
 have hla:n + 1 + 1 < w6.heap.size:=by rw [←hnw];exact HS6.out.l.lt
 have hqa:q + 1≤w6.heap.size:=HQ6.out
 obtain ⟨a,ha⟩:∃ a,w6.heap.size=a:=⟨_,rfl⟩
 rw [ha] at HA7 HM7 hla hqa hs6w ⊢
 rw [ha] at HS7 HB67
 have HSZ6:=hI ha
 generalize (((w6.alloc (.cells #[.int .i64 0,.int .i64 0,.int .i64 0,.int .i64 0,.int .i64 0,.int .i64 0,.int .i64 0,.slice none 0 0,.slice none 0 0,.slice none 0 0,.slice none 0 0,.slice none 0 0,.slice none 0 0,.int .i64 0,.int .i64 0,.int .i64 0,.slice none 0 0,.slice none 0 0] 35)).alloc (.cells #[.int .i64 0,.int .i64 0,.int .i64 0,.int .i64 0,.int .i64 0,.int .i64 0,.int .i64 0,.int .i64 0,.string ⟨#[]⟩,.slice none 0 0] 58)).setRow a c1).setRow (a + 1) cp=w7 at HS7 HA7 HM7 HB67 ⊢
 clear ha k1 k2 hb67 hb6w HS6 HS5 HQ5 HS4 HQ4 HS3 HQ3
 cases okp
 ·go_wp2
  have z1:=HS7.out.o.row
  have z2:=HS7.out.l.row
  rw [hnw] at z1 z2
  exact ⟨_,qdv rfl rfl rfl z1 hsz z2,HRE.out _ HS7.out⟩
 go_upto_region 9 with fail
 obtain ⟨⟨hcu,hfu⟩,hpz,hpA,hpc,hpp⟩:=HGD.out rfl
 have HCU:=hI hcu
 have HFU:=hI hfu
 have HPZ:Hid (p.z=#[]∧p.A=none∧p.pay.size≤1000):=⟨hpz,hpA,hpp⟩
 have HRE0:Hid (∀ W,RdE W p):=fun W=>⟨by rw [hpA,hpz];exact fun h=>absurd h (by decide),by rw [hpz,hpc];exact Nat.le_refl _,by rw [hpz];exact Nat.zero_le _,hpp⟩
 clear HGD hcu hfu hpz hpA hpc hpp
 obtain ⟨ca,hca⟩:∃ x,x=(encK (ansK t.self p)).toArray:=⟨_,rfl⟩
 have HAN:Hid (∀ W,Calls Tryz.prog 135 #[.int .i64 t.self,.agg cp] W fun x w'=>x=.returned (.agg ca)∧Below W.heap.size W w'):=fun W=>by rw [hca,HCP.out];exact qtw t.self p W
 have HAC:Hid (∀ W,Calls Tryz.prog 134 #[.agg cp,.agg ca] W fun x w'=>(∃ (u:EN) (cq:Array Value) (ok:Bool),x=.returned (.tuple #[.agg cq,.bool ok])∧cq=(encE u).toArray∧ok=qqg p (ansK t.self p)∧(ok=false→u=p)∧(ok=true→u={ p with A:=u.A,c:=u.c,z:=p.z.push (ansK t.self p) }∧RdK encK 6 w'.heap.size w' u.A u.z∧u.z.size≤u.c∧FreshA W.heap.size u.A))∧Below W.heap.size W w'):=fun W=>by
  rw [hca,HCP.out]
  exact (ack_any p (ansK t.self p) W (HRE0.out W) (HRE0.out W).cz).mono fun x w' ⟨⟨u,h1,h2,h3⟩,h4⟩=>⟨⟨u,_,_,h1,rfl,rfl,h2,h3⟩,h4⟩
 clear hca
 have c2:=HS7.out.x.at_ 2 HQ2.out
 rw [hnw] at c2
 have y1:=HM7.out.box hp1
 have y2:=HM7.out.rowAt
 have y3:qap w7.drew (a + 1) 10=true:=y1
 have y4:rowAt w7.drew (a + 1)=cp:=y2
 go_cut [7] from 59 to 67 (fun v7 wx=>∃ (u:EN) (cq:Array Value) (oka:Bool),v7=.bool oka∧RgC t w w6 cs c1 a p u cq oka wx)
 case first =>
  refine Go.wp_region_noPanic ?_
  go_region_law (first
   | (go_simp;go_at_call 135;refine (HAN.out _).mono ?_;rintro _ w8 ⟨rfl,hb⟩;have hb8:Below w7.heap.size w7 w8:=qaa (Below.refl _ w7).drew hb;have HS8:=hI (HS7.out.next hb8);have HA8:=hI (HA7.out.next hb8);have HM8:=hI (HM7.out.next hb8);have HB68:=hI (belA HB67.out hb8 HA7.out.lt);clear hb hb8 c2 y1 y2 y3 y4;have c2:=HS8.out.x.at_ 2 HQ2.out;rw [hnw] at c2;have y1:=HM8.out.box hp1;have y2:=HM8.out.rowAt)
   | (go_simp;go_at_call 134;refine (HAC.out _).mono ?_;rintro _ w9 ⟨⟨u,cq,oka,rfl,hcq,hoka,hu0,hu1⟩,hb⟩;have HS9:=hI (HS8.out.next hb);have HA9:=hI (HA8.out.next hb);have HM9:=hI (HM8.out.next hb);have HB69:=hI (belA HB68.out hb HA8.out.lt);have HQQ:=hI hcq;have HOKA:=hI hoka;have HU0:=hI hu0;have HU1:=hI hu1;have hq1:cq.size=10:=(by rw [hcq];rfl);have hq2:qbt cq=true:=(by rw [hcq];exact qep _);have HAL:Hid (a + 1 < w8.heap.size):=HM8.out.lt;clear hb hcq hoka hu0 hu1 c2 y1 y2;have y1:=HM9.out.box hp1;have y2:=HM9.out.rowAt))
  all_goals
   refine Go.NoPanic.normal ?_
   go_wp2
   go_meet
   exact ⟨u,cq,oka,rfl,rgC_of HS9.out HA9.out HM9.out HB69.out HQQ.out HOKA.out HU0.out HU1.out HAL.out HRE0.out HPZ.out (by omega)⟩
 case rest =>
  obtain ⟨u,cq,oka,rfl,hrg⟩:=hcut
  have HRG:=hI hrg
  clear hrg c2 y1 y2 y3 y4 HAN HAC HS7 HA7 HM7 HB67
  have HRU:Hid (∀ W,RgC t w w6 cs c1 a p u cq oka W→RdP W u1):=fun W hW=>HSP.out W (HRD.out.below hW.s.x.b) (fun j h1 h2=>hW.b6.block j (by rw [←HSZ6.out];exact h2)) (by rw [HSZ6.out];exact Nat.le_of_lt hW.ba.lt)
  have HPU:Hid (∀ W,RgC t w w6 cs c1 a p u cq oka W→Calls Tryz.prog 136 #[.agg c1,.agg cq] W fun x w'=>(∃ (y:RW EN) (c2:Array Value),x=.returned (.tuple #[.agg c2,.int .i64 (putK u1 u)])∧c2=(encP { u1 with e:=y }).toArray∧(putK u1 u=0→y.z=putD u1.e.z u∧RdK encE 10 w'.heap.size w' y.A y.z∧FreshA W.heap.size y.A))∧Below W.heap.size W w'):=fun W hW=>by
   rw [HC1.out,hW.q]
   exact (qsj u1 u W (HRU.out W hW) hW.ru HFU.out).mono fun x w' ⟨⟨y,h1,_,h2⟩,h3⟩=>⟨⟨y,_,h1,rfl,h2⟩,h3⟩
  obtain ⟨K,hK⟩:∃ K,putK u1 u=K:=⟨_,rfl⟩
  rw [hK] at HPU
  have HKK:=hI hK
  clear hK
  have hq1:cq.size=10:=by rw [HRG.out.q];rfl
  have x1:=HRG.out.ba.box hsz1
  have x2:=HRG.out.ba.rowAt
  have y1:=HRG.out.bm.box hq1
  have y2:=HRG.out.bm.rowAt
  go_upto_region 11 with (go_at_call 136;refine (HPU.out _ HRG.out).mono ?_;rintro _ w12 ⟨⟨y,c2,rfl,hc2,hy⟩,hb⟩;have HRH:=hI (HRG.out.next hb);have HLT:=hI HRG.out.bm.lt;obtain ⟨hsz2,hone2⟩:=rowP hc2;have HC2:=hI hc2;have HY:=hI hy;clear hb hc2 hy x1 x2 y1 y2;have x1:=HRH.out.ba.box hsz1)
  have HS13:=hI (HRH.out.s.rowTo (g:=a) (by omega) c2)
  have HA13:=hI (HRH.out.ba.rowOn (c:=c2) (by omega))
  have HM13:=hI (HRH.out.bm.rowTo (g2:=a) (c:=c2) (by omega) (by omega))
  have HB13:=hI (qbk HRH.out.b6 (Nat.le_refl a) c2)
  obtain ⟨w13,hw13⟩:∃ W,W=w12.setRow a c2:=⟨_,rfl⟩
  have HW:=hI hw13
  rw [←hw13] at HS13 HA13 HM13 HB13 ⊢
  clear hw13 x1
  have HLV:Hid (∀ W,StW w cs cs none 0 0 W→BoxG w a c2 35 W→CallsD Tryz.prog 133 #[.pointer (some ⟨n + 1 + 1,0,none⟩),.pointer (some ⟨a,0,none⟩),.pointer (some ⟨n + 1,0,none⟩)] .returning W fun e u' w'=>u'=.returning∧(e=.returned (.tuple #[])∧w'=W)):=fun W h1 h2=>by
   have z1:=h1.o.row
   have z2:=h1.l.row
   rw [hnw] at z1 z2
   exact (qvy (n + 1 + 1) a (n + 1) none 0 0 c2 cs _ _ _ .returning W z2 h2.row z1 hsz2 hone2 hsz).mono fun e u' w' ⟨h3,h4,h5⟩=>⟨h3,h4,h5⟩
  cases oka
  ·go_wp2
   refine leaves_cons (f:=133) (args:=#[.pointer (some ⟨n + 1 + 1,0,none⟩),.pointer (some ⟨a,0,none⟩),.pointer (some ⟨n + 1,0,none⟩)]) (by simp) (by simp [go_sem]) ?_
   refine (HLV.out _ HS13.out HA13.out).mono ?_
   rintro _ u' w14 ⟨rfl,rfl,rfl⟩
   have z1:=HS13.out.o.row
   have z2:=HS13.out.l.row
   rw [hnw] at z1 z2
   exact ⟨_,qdv rfl rfl rfl z1 hsz z2,HRE.out _ HS13.out⟩
  by_cases hK0:K=0
  rotate_left
  ·have e4:(K != 0)=true:=bne_iff_ne.2 hK0
   go_wp2
   refine leaves_cons (f:=133) (args:=#[.pointer (some ⟨n + 1 + 1,0,none⟩),.pointer (some ⟨a,0,none⟩),.pointer (some ⟨n + 1,0,none⟩)]) (by simp) (by simp [go_sem]) ?_
   refine (HLV.out _ HS13.out HA13.out).mono ?_
   rintro _ u' w14 ⟨rfl,rfl,rfl⟩
   have z1:=HS13.out.o.row
   have z2:=HS13.out.l.row
   rw [hnw] at z1 z2
   exact ⟨_,qdv rfl rfl rfl z1 hsz z2,HRE.out _ HS13.out⟩
  subst hK0
  obtain ⟨hya,hyb,hyc⟩:=HY.out rfl
  have HYF:Hid (FreshA (a + 1 + 1) y.A):=FreshA.mono hyc HLT.out
  have HYA:=hI hya
  have HYB:=hI hyb
  clear HY hya hyb hyc
  have HSE:Hid (∀ W,Below w13.heap.size w13 W→∀ W',(∀ j,q + 1≤j→j < W.heap.size→W'.heap[j]?=W.heap[j]?)→W'.heap.size=W.heap.size→SepR t w.heap.size W' { u1 with e:=y }):=fun W hb W' h1 h2=>by
   have hs12:w13.heap.size=w12.heap.size:=by rw [HW.out];simp
   have hal:=HA13.out.lt
   have hbs:=hb.size
   refine start_sep (q:=q + 1) (w6:=w6) (w12:=w12) HSP.out HSZ6.out (fun j j1 j2=>(h1 j j1 (by omega)).trans ((hb.block j (by omega)).trans (HB13.out.block j j2))) (fun j j1 j2=>(h1 j (by omega) (by omega)).trans ((hb.block j (by omega)).trans ?_)) (by omega) (by omega) (by omega) (by omega) HYA.out HYB.out HRH.out.ru HRH.out.fu HYF.out
   rw [HW.out]
   exact setRow_other _ _ j _ (by omega)
  obtain ⟨hcs1,hfs1⟩:=qpx (y:=y) HFU.out HKK.out HYA.out HRH.out.ru.sz HRH.out.ru.pz
  have HALL:Hid (∀ W,Below w13.heap.size w13 W→Calls Tryz.prog 64 #[.agg c2,.agg (msgC (rescM id B u))] W fun x w'=>(∃ o:RW OU,x=.returned (.slice o.A o.z.size o.c)∧o.z=(allO { u1 with e:=y } (rescM id B u)).toArray∧RdN qcg 15 w' o∧FreshA W.heap.size o.A)∧Below W.heap.size W w'):=fun W hb=>by
   rw [HC2.out]
   refine (qjz { u1 with e:=y } (rescM id B u) W ((HSE.out W hb W (fun _ _ _=>rfl) rfl).rd (HRD.out.below (qaa HS13.out.x.b hb))) hfs1).mono fun x w' ⟨⟨v,he,h1,_⟩,hb2⟩=>?_
   obtain ⟨o,rfl,hz,hr,hf⟩:=qik (h1 hcs1)
   exact ⟨⟨o,he,hz,hr,hf⟩,hb2⟩
  simp only [rescM,msgC] at HALL
  clear hcs1 hfs1 HLV
  have HEU:Hid (cq[2]?=some (.int .i64 u.qu)∧cq[8]?=some (.string u.pay)):=by show _∧_;rw [HRG.out.q];exact ⟨rfl,rfl⟩
  have c0:=HM13.out.at_ 2 HEU.out.1
  have c1':=HM13.out.at_ 8 HEU.out.2
  have x1:=HS13.out.o.box hsz
  have x2:=HS13.out.o.rowAt
  have y1:=HA13.out.box hsz2
  have y2:=HA13.out.rowAt
  rw [hnw] at x1 x2
  clear c0 c1' x1 x2 y1 y2
  have KS:Hid (∀ W,StW w cs cs none 0 0 W∨(∃ A k c,StW w cs cs A k c W)→BoxG w a c2 35 W→BoxG w (a + 1) cq 58 W→qap W (n + 1) 18=true∧rowAt W (n + 1)=cs∧qap W a 18=true∧rowAt W a=c2∧W.cell? ⟨a + 1,2,none⟩=some (.int .i64 u.qu)∧W.cell? ⟨a + 1,8,none⟩=some (.string u.pay)):=fun W h1 h2 h3=>by
   have h4:BoxG w (w.heap.size + 1) cs 35 W:=by
    rcases h1 with h1 | ⟨_,_,_,h1⟩ <;> exact h1.o
   rw [hnw] at h4
   exact ⟨h4.box hsz,h4.rowAt,h2.box hsz2,h2.rowAt,h3.at_ 2 HEU.out.1,h3.at_ 8 HEU.out.2⟩
  go_upto_region 12 with fail
  refine Go.wp_region_noPanic ?_
  refine qcz (S:=fun W=>qap W (n + 1) 18=true∧rowAt W (n + 1)=cs∧qap W a 18=true∧rowAt W a=c2∧W.cell? ⟨a + 1,2,none⟩=some (.int .i64 u.qu)∧W.cell? ⟨a + 1,8,none⟩=some (.string u.pay)) (by kernel_rfl) ?_
  have hb1:Below w13.heap.size w13 w13.drew:=(Below.refl _ _).drew
  have hS:=KS.out _ (.inl (HS13.out.next hb1)) (HA13.out.next hb1) (HM13.out.next hb1)
  refine qil (some 80) (i:=0) (v:=.agg cs) rfl rfl (by kernel_rfl) (by kernel_rfl) (by kernel_rfl) (fun _ _ _ h=>h) (Or.inl ⟨by rfl,fun W hW=>qez rfl hW.1 hW.2.1⟩) hS ?_
  simp only [Act.put,sA,s0,s1]
  refine qil (some 81) (i:=1) (v:=.agg c2) rfl rfl (by kernel_rfl) (by kernel_rfl) (by kernel_rfl) (fun _ _ _ h=>h) (Or.inl ⟨by rfl,fun W hW=>qez rfl hW.2.2.1 hW.2.2.2.1⟩) hS ?_
  simp only [Act.put,sA,s0,s1]
  refine tkF 82 2 rfl rfl hS ?_
  simp only [Act.put,sA,s0,s1]
  refine tkF 83 3 rfl rfl hS ?_
  simp only [Act.put,sA,s0,s1]
  refine tkF 84 4 rfl rfl hS ?_
  simp only [Act.put,sA,s0,s1]
  refine tkF 85 5 rfl rfl hS ?_
  simp only [Act.put,sA,s0,s1]
  refine tkF 86 6 rfl rfl hS ?_
  simp only [Act.put,sA,s0,s1]
  refine tkF 87 7 rfl rfl hS ?_
  simp only [Act.put,sA,s0,s1]
  refine tkF 88 8 rfl rfl hS ?_
  simp only [Act.put,sA,s0,s1]
  refine rdy1 9 rfl (fun K hK=>?_)
  go_simp
  refine (HALL.out _ hb1).mono ?_
  rintro _ w14 ⟨⟨o,rfl,hoz,hor,hof⟩,hb⟩
  have hb2:Below w13.heap.size w13 w14:=qaa hb1 hb
  have HB14:=hI hb2
  have HS14:=hI (HS13.out.next hb2)
  have HA14:=hI (HA13.out.next hb2)
  have HM14:=hI (HM13.out.next hb2)
  have HOZ:=hI hoz
  have HOR:=hI hor
  have HOF:Hid (FreshA w13.heap.size o.A):=hof
  refine hK.out _ _ (KS.out _ (.inl HS14.out) HA14.out HM14.out) (fun _=>?_)
  clear hK K hS hb hb1 hb2 hoz hor hof
  have x1:=HS14.out.o.box hsz
  have x5:=HS14.out.l.at_ 0 (v:=.slice none 0 0) rfl
  have x6:=HS14.out.l.froz 0
  have g1:=HS14.out.o.row
  rw [hnw] at x1 x5 x6 g1
  have g2:=qby w14 (n + 1) _ _ cs g1 rfl hone
  have HR1:=hI (HS14.out.l.rowTo (g2:=w.heap.size + 1) (c:=cs) (by omega) (by omega))
  have HT1:Hid (StW w cs cs none 0 0 (w14.setRow (w.heap.size + 1) cs)):=hI ⟨HS14.out.x.rowTo (by omega) (by omega),HS14.out.o.rowOn (by omega),HR1.out⟩
  refine rdy1 10 rfl (fun K hK=>?_)
  go_simp
  refine hK.out _ _ (KS.out _ (.inl (hnw ▸ HT1.out)) ((hnw ▸ HA14.out.rowTo (g2:=w.heap.size + 1) (by omega) (by omega):BoxG w a c2 35 (w14.setRow (n + 1) cs))) ((hnw ▸ HM14.out.rowTo (g2:=w.heap.size + 1) (by omega) (by omega):BoxG w (a + 1) cq 58 (w14.setRow (n + 1) cs)))) (fun _=>?_)
  clear hK K x1 x5 x6 g1 g2
  have z5:=HR1.out.at_ 0 (v:=.slice none 0 0) rfl
  have z6:=HR1.out.froz 0
  rw [hnw] at z5 z6
  refine rdyL 11 rfl (fun K hK=>?_)
  go_simp
  refine hK.out _ _ ?_
  clear hK K
  refine qca (by kernel_rfl) ?_ _
  refine Go.NoPanic.normal ?_
  have hl13:=HS13.out.l.lt
  have HT2:Hid (StW w cs cs o.A o.z.size o.c ((w14.setRow (w.heap.size + 1) cs).setCell ⟨w.heap.size + 1 + 1,0,none⟩ (.slice o.A o.z.size o.c))):=hI ⟨HT1.out.x.far (by omega) (by omega) _ _,HT1.out.o.far (by omega) (by omega) _ _,by have:=HT1.out.l.set (by omega) 0 (.slice o.A o.z.size o.c);simpa using this⟩
  have HA15:=hI ((HA14.out.rowTo (g2:=w.heap.size + 1) (c:=cs) (by omega) (by omega)).far (g2:=w.heap.size + 1 + 1) (by omega) (by omega) 0 (.slice o.A o.z.size o.c))
  have HK15:Hid ((∀ j,q + 1≤j→((w14.setRow (w.heap.size + 1) cs).setCell ⟨w.heap.size + 1 + 1,0,none⟩ (.slice o.A o.z.size o.c)).heap[j]?=w14.heap[j]?)∧((w14.setRow (w.heap.size + 1) cs).setCell ⟨w.heap.size + 1 + 1,0,none⟩ (.slice o.A o.z.size o.c)).heap.size=w14.heap.size∧RdN qcg 15 ((w14.setRow (w.heap.size + 1) cs).setCell ⟨w.heap.size + 1 + 1,0,none⟩ (.slice o.A o.z.size o.c)) o):=by
   refine ⟨fun j hj=>(Below.heap_setCell _ _ _ _ (show j≠w.heap.size + 1 + 1 by omega)).trans (setRow_other _ _ j _ (by omega)),by simp,?_⟩
   refine (HOR.out.farG (g:=w.heap.size + 1) (W:=w14.setRow (w.heap.size + 1) cs) (by simp) (fun _ x hx=>by have:=HOF.out x hx;omega) (fun b hb=>setRow_other _ _ b _ hb)).farG (g:=w.heap.size + 1 + 1) (by simp) (fun _ x hx=>by have:=HOF.out x hx;omega) (fun b hb=>Below.heap_setCell _ _ _ _ hb)
  rw [hnw] at HT2 HA15 HK15
  obtain ⟨w15,hw15⟩:∃ W,W=(w14.setRow (n + 1) cs).setCell ⟨n + 1 + 1,0,none⟩ (.slice o.A o.z.size o.c):=⟨_,rfl⟩
  rw [←hw15] at HT2 HA15 HK15 ⊢
  clear hw15 z5 z6
  go_wp2
  refine leaves_cons (f:=133) (args:=#[.pointer (some ⟨n + 1 + 1,0,none⟩),.pointer (some ⟨a,0,none⟩),.pointer (some ⟨n + 1,0,none⟩)]) (by simp) (by simp [go_sem]) ?_
  have z1:=HT2.out.o.row
  have z2:=HT2.out.l.row
  rw [hnw] at z1 z2
  refine (qvy (n + 1 + 1) a (n + 1) o.A o.z.size o.c c2 cs _ _ _ .returning w15 z2 HA15.out.row z1 hsz2 hone2 hsz).mono ?_
  rintro _ u' w16 ⟨rfl,rfl,hw16⟩
  by_cases h0:o.z.size=0
  ·rw [if_pos h0] at hw16
   subst hw16
   exact ⟨_,qdv rfl rfl rfl z1 hsz z2,⟨⟨t,o,by rw [HCS.out],Or.inl ⟨rfl,by rw [Array.eq_empty_of_size_eq_zero h0]⟩,SepR.self _ _ _,HK15.out.2.2⟩,HT2.out.x.b⟩⟩
  ·rw [if_neg h0] at hw16
   subst hw16
   refine ⟨_,qdv rfl rfl rfl (setRow_heap _ _ _ _ _ _ z1) hsz2 ((setRow_other _ _ _ _ (by omega)).trans z2),⟨⟨{ u1 with e:=y },o,by rw [HC2.out],Or.inr ⟨e,B,u1,p,u,⟨HFI.out,HO.out,HXX.out,HBB.out.symm⟩,HRP.out,HRG.out.ok.symm,HRG.out.u1 rfl,HKK.out,rfl,HYA.out,by rw [HOZ.out];rfl⟩,?_,?_⟩,qbk HT2.out.x.b (by omega) _⟩⟩
   ·exact HSE.out w14 HB14.out _ (fun j j1 _=>(setRow_other _ _ j _ (by omega)).trans (HK15.out.1 j j1)) (by simp [HK15.out.2.1])
   ·exact HK15.out.2.2.farG (g:=n + 1) (by simp) (fun _ x hx=>by have:=HOF.out x hx;omega) (fun b hb=>setRow_other _ _ b _ hb)
end Go.Proofs.YtlkmagmdhopcjaaGreat
namespace Go.Proofs.YtlkmagmdhopcjaaGreat
open Go.RowKit Go.Sort Go.Lib
theorem RprR.same {t:RP} {e:EN} {B:Int} {u:RP} {p:EN} (h:RprR t e B u p true):u={ t with clock:=u.clock,o:=u.o,e:=u.e }∧t.clock≤u.clock∧u.o.z.size≤t.o.z.size + 1:=by
 rcases h with ⟨h1,_⟩ | ⟨_,r1,t1,h2,_,_,h5,_⟩
 ·cases h1
 ·rcases h2 with ⟨_,rfl,_⟩ | ⟨_,h2⟩
  ·rw [h5]
   exact ⟨rfl,Int.le_refl _,Nat.le_succ _⟩
  ·obtain ⟨a1,a2,a3⟩:=h2.2.2 rfl
   rw [a2] at h5
   rw [h5]
   refine ⟨rfl,by show t.clock≤t1;omega,?_⟩
   show r1.o.z.size≤_
   rw [a3,Array.size_push]
   exact Nat.le_refl _
theorem StP.good {t:RP} {id:Int} {s:RP} {l:List OU} (h:StP t id s l) (hc:chkR t=true) (hf:FewC t) (ho:t.o.z.size≤999):(chkR s=true∧FewC s)∧s.o.z.size≤t.o.z.size + 1∧l.length≤9∧s={ t with clock:=s.clock,o:=s.o,e:=s.e }∧t.clock≤s.clock:=by
 rcases h with ⟨rfl,rfl⟩ | ⟨e,B,u,p,q,h1,h2,_,h4,h5,h6,h7,h8⟩
 ·exact ⟨⟨hc,hf⟩,Nat.le_succ _,Nat.zero_le _,rfl,Int.le_refl _⟩
 ·obtain ⟨i,hi,hie,_⟩:=qjs h1.find
  have hp:e.pay.size≤1000:=by rw [←hie];exact (hf.ee i hi).2
  obtain ⟨⟨a1,a2⟩,a3,_,_,a6⟩:=qvx h2 hf ho hp hc
  obtain ⟨b1,b2,b3⟩:=h2.same
  have hq1:q.z.size≤1000:=by rw [h4];show (p.z.push _).size≤1000;rw [a3,Array.size_push];decide
  have hq2:q.pay.size≤1000:=by rw [h4];exact a6
  have hg:=qpx (y:=s.e) a2 h5 h7 hq1 hq2
  rw [←h6] at hg
  refine ⟨hg,by rw [h6];exact b3,?_,?_,by rw [h6];exact b2⟩
  ·rw [h8]
   exact qkx s (qet hg.1).1.2 _
  ·rw [h6,b1]
theorem qgt {r2:RP} {d:Array Int} (hc:chkR r2=true) (hf:FewC r2) (ho:r2.o.z.size≤900):∀ (k:Nat),k≤99→∀ (t:RP) (os:List OU),qgj StP r2 d k t os→(chkR t=true∧FewC t)∧t.o.z.size≤r2.o.z.size + k∧os.length≤9 * k∧t={ r2 with clock:=t.clock,o:=t.o,e:=t.e }∧r2.clock≤t.clock
 | 0,_,t,os,h=>by
   obtain ⟨rfl,rfl⟩:=h
   exact ⟨⟨hc,hf⟩,Nat.le_refl _,Nat.le_refl _,rfl,Int.le_refl _⟩
 | k + 1,hk,s,os,h=>by
   obtain ⟨t,o1,o2,h1,h2,rfl⟩:=h
   obtain ⟨⟨a1,a2⟩,a3,a4,a5,a6⟩:=qgt hc hf ho k (by omega) t o1 h1
   obtain ⟨b1,b2,b3,b4,b5⟩:=h2.good a1 a2 (by omega)
   refine ⟨b1,by omega,by rw [List.length_append];omega,?_,by omega⟩
   rw [b4,a5]
theorem qyj (d:Array (Int×Int)) (f:Int):(qsh d f).size≤d.size:=by
 unfold qsh
 have:=List.length_filter_le (fun a:Int×Int=>!decide (a.1≤f)) d.toList
 rw [List.size_toArray]
 exact this
theorem qpz {r r1 s2:RP} (hf:FewM r) (hc:chkR r=true) (h1:RefR r r1) (h2:AgedR r1 s2):(chkR s2=true∧FewC s2)∧s2.o.z.size≤150∧(dueR s2).size≤40:=by
 have c1:=h1.chk hc hf
 have c2:=h2.chk c1
 have f2:=h2.few (h1.few hc hf)
 have eo:s2.o=r1.o:=by
  rcases h2 with ⟨_,rfl⟩ | ⟨_,h2,_⟩
  ·rfl
  ·rw [h2]
 refine ⟨⟨c2,f2⟩,?_,Nat.le_trans (qql s2) (qct.1 (qob c2)).1⟩
 rw [eo,h1.o]
 exact Nat.le_trans (qyj _ _) hf.o
theorem qyk (r:RP) (w:World) (h:RdP w r) (hf:FewM r):Calls Tryz.prog 16 #[.agg (encP r).toArray] w fun e w'=>TickO StP r w e w' :=
 qlq StP r w h hf
  (fun r1 s2 hc h1 h2 k t os hk hs W hW=>by
    obtain ⟨⟨a1,a2⟩,a3,a4⟩:=qpz hf hc h1 h2
    obtain ⟨⟨b1,b2⟩,b3,_⟩:=qgt a1 a2 (by omega) k (by omega) t os hs
    exact qyi t _ W hW b2 (by omega) b1)
  (fun r1 s2 hc h1 h2 k t os hk hs=>by
    obtain ⟨⟨a1,a2⟩,a3,a4⟩:=qpz hf hc h1 h2
    obtain ⟨⟨b1,b2⟩,_,b4,_⟩:=qgt a1 a2 (by omega) k (by omega) t os hs
    exact ⟨b1,b2,b4⟩)
end Go.Proofs.YtlkmagmdhopcjaaGreat
namespace Go.Proofs.YtlkmagmdhopcjaaGreat
open Go.RowKit Go.Sort Go.Lib
theorem leastN_le (d:Array Int) {i:Nat} (hi:i < d.size):qeg d≤d[i]!:=by
 have h:=min_le d.toList d.size (by omega) (by simp) i hi
 rw [List.take_of_length_le (by simp),qgs] at h
 exact h
theorem qrw (d1 d2:Array Int) {c:Nat} (h:c < d1.size):d1[c]!≤(qda d1 d2)[c]!:=by
 rw [qms _ _ _ (by omega)]
 unfold qjr
 rw [if_pos h]
 split <;> omega
theorem qgc {r:RP} (h:chkR r=true):(r.k.z.size:Int)=r.n∧(r.fr.z.size:Int)=r.n∧(r.m.z.size:Int)=r.n∧∀ i,i < r.m.z.size→(r.m.z[i]!.z.size:Int)=r.n :=
 ⟨qhk h,(qat.1 (qip h)).2.1,(qbv.1 (qcq h)).2.1,fun i hi=>(qat.1 ((qbv.1 (qcq h)).2.2 i hi)).2.1⟩
structure MkG (r s:RP):Prop where
 chk:chkR s=true
 few:FewC s
 n:s.n=r.n
 kk:∀ i,i < r.k.z.size→r.k.z[i]!.base≤s.k.z[i]!.base
 fr:∀ i,i < r.fr.z.size→r.fr.z[i]!≤s.fr.z[i]!
 mm:∀ i,i < r.m.z.size→∀ c,c < 3→r.m.z[i]!.z[c]!≤s.m.z[i]!.z[c]!
 e:∀ x ∈ r.e.z.toList,(∃ y ∈ s.e.z.toList,y.id=x.id)∨(x.ph=6∧∀ i,i < s.fr.z.size→x.t≤s.fr.z[i]!)
theorem MkG.trans {r a b:RP} (hr:chkR r=true) (h:MkG r a) (g:MkG a b) (hp:∀ x ∈ r.e.z.toList,∀ y ∈ a.e.z.toList,y.id=x.id→y.ph=6→x.ph=6∧x.t=y.t):MkG r b:=by
 obtain ⟨r1,r2,r3,r4⟩:=qgc hr
 obtain ⟨a1,a2,a3,a4⟩:=qgc h.chk
 obtain ⟨b1,b2,b3,b4⟩:=qgc g.chk
 have hn:=h.n
 have gn:=g.n
 refine ⟨g.chk,g.few,by rw [gn,hn],fun i hi=>Int.le_trans (h.kk i hi) (g.kk i (by omega)),fun i hi=>Int.le_trans (h.fr i hi) (g.fr i (by omega)),fun i hi c hc=>Int.le_trans (h.mm i hi c hc) (g.mm i (by omega) c hc),fun x hx=>?_⟩
 rcases h.e x hx with ⟨y,hy,e⟩ | ⟨h1,h2⟩
 ·rcases g.e y hy with ⟨z,hz,e2⟩ | ⟨h1,h2⟩
  ·exact Or.inl ⟨z,hz,e2.trans e⟩
  ·obtain ⟨q1,q2⟩:=hp x hx y hy e h1
   exact Or.inr ⟨q1,fun i hi=>by rw [q2];exact h2 i hi⟩
 ·exact Or.inr ⟨h1,fun i hi=>Int.le_trans (h2 i (by omega)) (g.fr i (by omega))⟩
theorem MkG.same {r s:RP} (hc:chkR s=true) (hf:FewC s) (hn:s.n=r.n) (hk:s.k=r.k) (hr:s.fr=r.fr) (hm:s.m=r.m) (he:∀ x ∈ r.e.z.toList,∃ y ∈ s.e.z.toList,y.id=x.id):MkG r s :=
 ⟨hc,hf,hn,fun i _=>by rw [hk];exact Int.le_refl _,fun i _=>by rw [hr];exact Int.le_refl _,fun i _ c _=>by rw [hm];exact Int.le_refl _,fun x hx=>Or.inl (he x hx)⟩
theorem MkG.refl {r:RP} (hc:chkR r=true) (hf:FewC r):MkG r r:=.same hc hf rfl rfl rfl rfl fun x hx=>⟨x,hx,rfl⟩
theorem ids_uniq {d:Array EN} (h:chkT d=true) {x y:EN} (hx:x ∈ d.toList) (hy:y ∈ d.toList) (e:y.id=x.id):y=x:=by
 have hu:=qqi h
 obtain ⟨i,hi,rfl⟩:=qgb hx
 obtain ⟨j,hj,rfl⟩:=qgb hy
 rcases Nat.lt_trichotomy i j with h1 | h1 | h1
 ·have:=hu i j h1 hj;omega
 ·rw [h1]
 ·have:=hu j i h1 hi;omega
theorem MkG.trans' {r a b:RP} (hr:chkR r=true) (h:MkG r a) (he:a.e=r.e) (g:MkG a b):MkG r b :=
 h.trans hr g fun x hx y hy e h6=>by
  rw [he] at hy
  rw [ids_uniq (qob hr) hx hy e] at h6 ⊢
  exact ⟨h6,rfl⟩
theorem MkG.then {r a b:RP} (hr:chkR r=true) (h:MkG r a) (g:MkG a b) (he:∀ x ∈ a.e.z.toList,∃ y ∈ b.e.z.toList,y.id=x.id):MkG r b:=by
 obtain ⟨r1,r2,r3,r4⟩:=qgc hr
 obtain ⟨a1,a2,a3,a4⟩:=qgc h.chk
 obtain ⟨b1,b2,b3,b4⟩:=qgc g.chk
 have hn:=h.n
 have gn:=g.n
 refine ⟨g.chk,g.few,by rw [gn,hn],fun i hi=>Int.le_trans (h.kk i hi) (g.kk i (by omega)),fun i hi=>Int.le_trans (h.fr i hi) (g.fr i (by omega)),fun i hi c hc=>Int.le_trans (h.mm i hi c hc) (g.mm i (by omega) c hc),fun x hx=>?_⟩
 rcases h.e x hx with ⟨y,hy,e⟩ | ⟨h1,h2⟩
 ·obtain ⟨z,hz,e2⟩:=he y hy
  exact Or.inl ⟨z,hz,e2.trans e⟩
 ·exact Or.inr ⟨h1,fun i hi=>Int.le_trans (h2 i (by omega)) (g.fr i (by omega))⟩
theorem DropR.mkg {r s:RP} (h:DropR r s) (hc:chkR r=true) (hf:FewC r):MkG r s:=by
 have c1:=h.chk hc
 have f1:=h.few hf
 obtain ⟨q,h1⟩:=h
 have e1:s.fr=r.fr:=by rw [q]
 refine ⟨c1,f1,by rw [q],fun i _=>by rw [q];exact Int.le_refl _,fun i _=>by rw [q];exact Int.le_refl _,fun i _ c _=>by rw [q];exact Int.le_refl _,fun x hx=>?_⟩
 cases hd:qin (qeg r.fr.z) x
 ·refine Or.inl ⟨x,?_,rfl⟩
  rw [h1]
  show x ∈ List.filter _ _
  exact List.mem_filter.2 ⟨hx,by rw [hd];rfl⟩
 ·unfold qin at hd
  have hd:=of_decide_eq_true hd
  refine Or.inr ⟨hd.1,fun i hi=>?_⟩
  rw [e1] at hi ⊢
  exact Int.le_trans hd.2 (leastN_le _ hi)
theorem RefR.mkg {r s:RP} (h:RefR r s) (hc:chkR r=true) (hf:FewM r):MkG r s:=by
 have hk:=h.known hc hf
 have hR:=qbv.1 (qcq hc)
 refine ⟨h.chk hc hf,h.few hc hf,by rw [h.eq],fun i hi=>(hk i hi).2.1,fun i _=>by rw [h.eq];exact Int.le_refl _,fun i hi c h3=>?_,fun x hx=>Or.inl ⟨x,by rw [h.eq];exact hx,rfl⟩⟩
 rw [h.mm i hi]
 split
 ·have:=(qgc hc).2.2.2 i hi
  exact qrw _ _ (by omega)
 ·exact Int.le_refl _
theorem RefR.e {r s:RP} (h:RefR r s):s.e=r.e:=by rw [h.eq]
theorem PromR.mkg {r s:RP} {m:PM} {p:Nat} (h:PromR r m s) (ho:OkPr r m p) (hf:FewP r):MkG r s:=by
 have hk:=h.kn ho hf
 have hR:=qbv.1 (qcq ho.c)
 refine ⟨h.chk ho hf,(h.few ho hf).c,by rw [h.eq],fun i hi=>(hk i hi).2.2.2.1,fun i hi=>?_,fun i hi c h3=>?_,fun x hx=>Or.inl ⟨x,by rw [h.eq];exact hx,rfl⟩⟩
 ·rw [h.fr,qls _ _ _ hi]
  split <;> omega
 ·rw [h.mm i hi]
  split
  ·have:=(qgc ho.c).2.2.2 i hi
   exact qrw _ _ (by omega)
  ·exact Int.le_refl _
theorem OnPrR.mkg {r s:RP} {m:PM} (h:OnPrR r m s) (hc:chkR r=true) (hf:FewP r):MkG r s:=by
 rcases h with ⟨h0,rfl⟩ | ⟨h0,a,b,h1,h2,h3⟩
 ·exact .refl hc hf.c
 ·obtain ⟨p,ho⟩:=quw h0
  have c1:=h1.chk ho hf
  have f1:=h1.few ho hf
  have c2:=h2.chk c1 f1
  have f2:=h2.few c1 f1
  exact (h1.mkg ho hf).trans' hc (by rw [h1.eq]) ((h2.mkg c1 f1).trans' c1 h2.e (h3.mkg c2 f2))
theorem FrontR.mkg {r s:RP} {t:Int} (h:FrontR r t s) (hc:chkR r=true) (hf:FewC r):MkG r s:=by
 rcases h with ⟨h0,rfl⟩ | ⟨⟨_,h0,h1⟩,a,e,h2,h3⟩
 ·exact .refl hc hf
 ·have hs:=(qet hc).2
  have hfr:=qip hc
  have hfz:=(qat.1 hfr).2.1
  have ca:chkR a=true:=by
   rw [e]
   refine chk_km (r:=r) hc rfl rfl (qhl (r:=r) hc) (qcq (r:=r) hc) ?_
   show qas a.fr.z r.n=0
   rw [h2]
   exact qio hfr ⟨h0,h1⟩ (by omega)
  have fa:FewC a:=by
   rw [e]
   refine ⟨hf.es,hf.ee,hf.o,hf.k,hf.m,hf.mm,?_,hf.d,hf.dd,hf.kk⟩
   show a.fr.z.size≤1000
   rw [h2,qdo]
   exact hf.fr
  have ea:a.e=r.e:=by rw [e]
  refine MkG.trans' hc ⟨ca,fa,by rw [e],fun i _=>by rw [e];exact Int.le_refl _,fun i hi=>?_,fun i _ c _=>by rw [e];exact Int.le_refl _,fun x hx=>Or.inl ⟨x,by rw [ea];exact hx,rfl⟩⟩ ea (h3.mkg ca fa)
  rw [h2,qls _ _ _ hi]
  split <;> omega
theorem put_ids {z:Array EN} {e:EN} (h:putC z e=0):∀ x ∈ z.toList,∃ y ∈ (putD z e).toList,y.id=x.id:=by
 intro x hx
 have hp:=(put_ok h).1
 obtain ⟨k,hk,rfl⟩:=qgb hx
 by_cases he:z[k]!.id=e.id
 ·obtain ⟨i,hi,h1,h2⟩:=qjs hp.here
  exact ⟨_,qen _ hi,by rw [he,←h2,h1]⟩
 ·obtain ⟨i,hi,h1,h2⟩:=qjs (hp.stay k hk he)
  exact ⟨_,qen _ hi,by rw [h1]⟩
theorem qvz {r:RP} {e:EN} (h:putK r e=0):putC r.e.z e=0:=by
 unfold putK at h
 split at h
 ·split at h
  ·cases h
  ·exact h
 ·cases h
theorem AgedR.ids {r s:RP} (h:AgedR r s):s.k=r.k∧s.fr=r.fr∧s.m=r.m∧s.n=r.n∧∀ x ∈ r.e.z.toList,∃ y ∈ s.e.z.toList,y.id=x.id:=by
 rcases h with ⟨_,rfl⟩ | ⟨_,q,h1⟩
 ·exact ⟨rfl,rfl,rfl,rfl,fun x hx=>⟨x,hx,rfl⟩⟩
 ·refine ⟨by rw [q],by rw [q],by rw [q],by rw [q],fun x hx=>?_⟩
  obtain ⟨i,hi,rfl⟩:=qgb hx
  have hs:i < s.e.z.size:=by rw [h1,qch];exact hi
  refine ⟨_,qen _ hs,?_⟩
  rw [h1,qgl _ _ hi,if_pos hi,qos]
theorem RprR.ids {t:RP} {e:EN} {B:Int} {u:RP} {p:EN} (h:RprR t e B u p true):∀ x ∈ t.e.z.toList,∃ y ∈ u.e.z.toList,y.id=x.id:=by
 rcases h with ⟨h1,_⟩ | ⟨_,r1,t1,h2,_,h4,_,h6⟩
 ·cases h1
 ·have er:r1.e=t.e:=by
   rcases h2 with ⟨_,rfl,_⟩ | ⟨_,h2⟩
   ·rfl
   ·rw [(h2.2.2 rfl).2.1]
  rw [h6,←er]
  exact put_ids (qvz h4)
theorem StP.ids {t:RP} {id:Int} {s:RP} {l:List OU} (h:StP t id s l):∀ x ∈ t.e.z.toList,∃ y ∈ s.e.z.toList,y.id=x.id:=by
 rcases h with ⟨rfl,rfl⟩ | ⟨e,B,u,p,q,h1,h2,_,h4,h5,h6,h7,h8⟩
 ·exact fun x hx=>⟨x,hx,rfl⟩
 ·intro x hx
  obtain ⟨y,hy,e1⟩:=h2.ids x hx
  obtain ⟨z,hz,e2⟩:=put_ids (qvz h5) y hy
  exact ⟨z,by rw [h7];exact hz,e2.trans e1⟩
theorem qom {r2:RP} {d:Array Int}:∀ (k:Nat) (t:RP) (os:List OU),qgj StP r2 d k t os→∀ x ∈ r2.e.z.toList,∃ y ∈ t.e.z.toList,y.id=x.id
 | 0,t,os,h=>by
   obtain ⟨rfl,rfl⟩:=h
   exact fun x hx=>⟨x,hx,rfl⟩
 | k + 1,s,os,h=>by
   obtain ⟨t,o1,o2,h1,h2,rfl⟩:=h
   intro x hx
   obtain ⟨y,hy,e1⟩:=qom k t o1 h1 x hx
   obtain ⟨z,hz,e2⟩:=h2.ids y hy
   exact ⟨z,hz,e2.trans e1⟩
theorem TickR.mkg {r s:RP} {x:RW OU} {W:World} (h:TickR StP r s x W) (hc:chkR r=true) (hf:FewM r):MkG r s:=by
 rcases h with ⟨h0,_⟩ | ⟨_,r1,s2,pm,os,h1,h2,h3,h4,h5,h6⟩
 ·rw [hc] at h0;cases h0
 ·obtain ⟨⟨a1,a2⟩,a3,a4⟩:=qpz hf hc h1 h2
  obtain ⟨⟨b1,b2⟩,_,_,b5,b6⟩:=qgt a1 a2 (by omega) _ (by omega) s os h3
  have g1:=h1.mkg hc hf
  obtain ⟨d1,d2,d3,d4,d5⟩:=h2.ids
  have g2:MkG r s2:=g1.then hc (.same a1 a2 d4 d1 d2 d3 d5) d5
  have d6:=qom _ s os h3
  exact g2.then hc (.same b1 b2 (by rw [b5]) (by rw [b5]) (by rw [b5]) (by rw [b5]) d6) d6
end Go.Proofs.YtlkmagmdhopcjaaGreat
namespace Go.Proofs.YtlkmagmdhopcjaaGreat
open Go.RowKit Go.Sort Go.Lib
set_option maxRecDepth 100000
attribute [local go_sem ↓] qak qai qau
attribute [local go_sem] qao qaj qah qaq qbd qbf
theorem q_new (me:Int) (hm:me=1∨me=2) (W:World):Calls Tryz.prog 23 #[.int .i64 3,.int .i64 1,.int .i64 me] W fun e w'=>∃ (r:RP) (cs:Array Value),e=.returned (.tuple #[.agg cs,.int .i64 0])∧cs=(encP r).toArray∧NewR 3 1 me 3 r∧RdP w' r∧Below W.heap.size W w' :=
 (qyq 3 1 me W).mono fun e w' ⟨⟨r,he,hn,hr⟩,hb⟩=>by
   have hp:newP 3 1 me:=by rcases hm with rfl | rfl <;> decide
   rw [if_pos hp] at he hn
   exact ⟨r,_,he,rfl,hn,hr,hb⟩
theorem q_tick (r:RP) (cs:Array Value) (hcs:cs=(encP r).toArray) (h:NewR 3 1 1 3 r) (W:World) (hr:RdP W r) :
 Calls Tryz.prog 16 #[.agg cs] W fun e w'=>∃ (ca:Array Value) (b off c:Nat),e=.returned (.tuple #[.agg ca,.slice (some ⟨b,off,none⟩) 2 c])∧ca.size=18∧qbt ca=true∧ca[6]?=some (.int .i64 1)∧b < w'.heap.size∧w'.cell? ⟨b,off + 1,none⟩=some (.int .i64 10)∧w'.cell? ⟨b,off + 15,none⟩=some (.int .i64 3)∧Below W.heap.size W w':=by
 subst hcs
 obtain ⟨hc,hf⟩:=newG h (Or.inl rfl)
 refine (qlq (fun _ _ _ _=>True) r W hr hf.m' ?_ ?_).mono ?_
 ·intro r1 s2 _ h1 h2 k t os hk _
  rw [(tickN h h1 h2).d] at hk
  exact absurd hk (Nat.not_lt_zero _)
 ·intro r1 s2 _ h1 h2 k t os hk hs
  have hn:=tickN h h1 h2
  rw [hn.d] at hk
  obtain rfl:k=0:=Nat.le_zero.1 hk
  obtain ⟨rfl,rfl⟩:=hs
  exact ⟨hn.c,hn.f,Nat.zero_le _⟩
 ·rintro e w' ⟨⟨s,x,rfl,hT,_,hx⟩,hb⟩
  obtain ⟨ht,m,hm,hz⟩:=qww h hT
  have h0:0 < x.z.size:=by rw [hz];exact Nat.zero_lt_two
  have h1:1 < x.z.size:=by rw [hz];exact Nat.one_lt_two
  obtain ⟨b,off,hA,hbl,f⟩:=hx.rd.at_ h0
  obtain ⟨b',off',hA',_,f'⟩:=hx.rd.at_ h1
  rw [hA] at hA'
  injection hA' with hA'
  injection hA' with e1 e2
  subst e1 e2
  rw [hz] at f f'
  obtain ⟨a1,a2⟩:=rowP (cs:=(encP s).toArray) rfl
  refine ⟨_,b,off,x.c,by rw [hA,show x.z.size=2 by rw [hz];rfl],a1,a2,by rw [←ht];rfl,hbl,?_,?_,hb⟩
  ·have:=f 1 (by decide)
   rw [show off + 0 * 15 + 1=off + 1 by omega] at this
   rw [this,←hm]
   rfl
  ·have:=f' 0 (by decide)
   rw [show off + 1 * 15 + 0=off + 15 by omega] at this
   rw [this]
   rfl
theorem q_prom (r:RP) (cs:Array Value) (hcs:cs=(encP r).toArray) (h:NewR 3 1 2 3 r) (A B:Option Addr) (a b:Nat) (W:World) (hr:RdP W r) (hm:RdM W (m29 A B a b)) :
 Calls Tryz.prog 9 #[.agg cs,.agg #[.int .i64 10,.int .i64 1,.int .i64 0,.int .i64 0,.int .i64 0,.int .i64 0,.int .i64 0,.int .i64 0,.string ⟨#[]⟩,.int .i64 0,.int .i64 4,.slice A 1 a,.slice B 3 b,.int .i64 1]] W fun e w'=>∃ (s:RP) (cb:Array Value),e=.returned (.tuple #[.agg cb,.slice none 0 0])∧cb=(encP s).toArray∧FewC s∧qeh s=#[2,0,0]∧s.fr.z=#[1,0,0]∧RdP w' s∧Below W.heap.size W w':=by
 subst hcs
 refine (qqt r (m29 A B a b) W hr hm (newG h (Or.inr rfl)).2).mono ?_
 rintro e w' ⟨⟨s,rfl,hO,hs⟩,hb⟩
 obtain ⟨_,f2,f3,f4⟩:=qwx h hO
 exact ⟨s,_,rfl,rfl,f2,f3,f4,hs.rd (hr.below hb),hb⟩
theorem q_front (r:RP) (cs:Array Value) (hcs:cs=(encP r).toArray) (h:NewR 3 1 1 3 r) (W:World) (hr:RdP W r) :
 Calls Tryz.prog 13 #[.agg cs,.int .i64 5] W fun e w'=>∃ (cd:Array Value) (b off c:Nat),e=.returned (.agg cd)∧cd.size=18∧qbt cd=true∧cd[11]?=some (.slice (some ⟨b,off,none⟩) 3 c)∧b < w'.heap.size∧w'.cell? ⟨b,off,none⟩=some (.int .i64 5)∧Below W.heap.size W w':=by
 subst hcs
 refine (qol r 5 W hr (newG h (Or.inl rfl)).2.c).mono ?_
 rintro e w' ⟨⟨s,rfl,hF,hs⟩,hb⟩
 have hz:=qsx h hF
 obtain ⟨b,off,hA,hbl,f⟩:=(hs.rd (hr.below hb)).fr.rd.at_ (i:=0) (by rw [hz];decide)
 obtain ⟨a1,a2⟩:=rowP (cs:=(encP s).toArray) rfl
 refine ⟨_,b,off,s.fr.c,rfl,a1,a2,?_,hbl,?_,hb⟩
 ·show some (Value.slice s.fr.A s.fr.z.size s.fr.c)=_
  rw [hA,hz]
  rfl
 ·rw [hz] at f
  exact f
theorem q_due (r:RP) (A:Option Addr) (c:Nat) (cc:Array Value) (hcc:cc=(encP (c29 r A c)).toArray) (h:NewR 3 1 1 3 r) (W:World) (hr:RdP W (c29 r A c)) :
 Calls Tryz.prog 25 #[.agg cc] W fun e w'=>∃ (B:Option Addr) (d:Nat),e=.returned (.slice B 1 d)∧RdI_R w'.heap.size w' B #[11]∧Below W.heap.size W w':=by
 subst hcc
 refine (due_any _ W hr (qlr h A c).2).mono ?_
 rintro e w' ⟨⟨v,rfl,ho⟩,hb⟩
 rw [c29_due h] at ho
 obtain ⟨y,rfl,hz,hy⟩:=qdr (l:=[11]) ho
 obtain ⟨B,d,z⟩:=y
 have hz':z=#[11]:=hz
 subst hz'
 exact ⟨B,d,rfl,hy.rd,hb⟩
theorem q_aged (r:RP) (A:Option Addr) (c:Nat) (cc:Array Value) (hcc:cc=(encP (c29 r A c)).toArray) (h:NewR 3 1 1 3 r) (W:World) (hr:RdP W (c29 r A c)) :
 Calls Tryz.prog 26 #[.agg cc] W fun e w'=>∃ (s:RP) (b off d:Nat),e=.returned (.agg #[.int .i64 s.n,.int .i64 s.f,.int .i64 s.self,.int .i64 s.clock,.int .i64 s.seq,.int .i64 s.floor,.int .i64 s.ticks,.slice (some ⟨b,off,none⟩) 2 d,.slice s.o.A s.o.z.size s.o.c,.slice s.k.A s.k.z.size s.k.c,.slice s.m.A s.m.z.size s.m.c,.slice s.fr.A s.fr.z.size s.fr.c,.slice s.d.A s.d.z.size s.d.c,.int .i64 s.lt,.int .i64 s.lid,.int .i64 s.count,.slice s.it.A s.it.z.size s.it.c,.slice s.ss.A s.ss.z.size s.ss.c])∧w'.cell? ⟨b,off + 10 + 7,none⟩=some (.int .i64 6)∧Below W.heap.size W w':=by
 subst hcc
 refine (qup _ W hr (qlr h A c).2).mono ?_
 rintro e w' ⟨⟨s,rfl,hA,hs⟩,hb⟩
 obtain ⟨h1,h2⟩:=c29_age h hA
 obtain ⟨b,off,hE,hbl,f⟩:=(hs.rd (hr.below hb)).e.rd.at_ (i:=1) (by rw [h1];decide)
 refine ⟨s,b,off,s.e.c,?_,?_,hb⟩
 ·simp only [encP]
  rw [hE,h1]
 ·have:=f 7 (by decide)
  rw [show off + 1 * 10 + 7=off + 10 + 7 by omega] at this
  rw [this,←h2]
  rfl
theorem q_tell (r:RP) (A:Option Addr) (c:Nat) (cc:Array Value) (hcc:cc=(encP (c29 r A c)).toArray) (h:NewR 3 1 1 3 r) (W:World) (hr:RdP W (c29 r A c)) :
 Calls Tryz.prog 27 #[.agg cc] W fun e w'=>∃ (B:Option Addr) (d:Nat),e=.returned (.slice B 6 d)∧Below W.heap.size W w':=by
 subst hcc
 obtain ⟨h1,h2⟩:=qlr h A c
 refine (qqk _ W hr h2 h1).mono ?_
 rintro e w' ⟨⟨x,pm,rfl,hT⟩,hb⟩
 have e6:x.z.size=6:=by rw [hT.1];exact c29_tell h A c pm
 exact ⟨x.A,x.c,by rw [e6],hb⟩
theorem q_prms (r:RP) (cs:Array Value) (hcs:cs=(encP r).toArray) (h:NewR 3 1 1 3 r) (W:World) (hr:RdP W r) :
 Calls Tryz.prog 28 #[.agg cs] W fun e w'=>∃ m:PM,e=.returned (.agg #[.int .i64 10,.int .i64 m.fr,.int .i64 m.id,.int .i64 m.t,.int .i64 m.bal,.int .i64 m.abal,.int .i64 m.ph,.int .i64 m.q,.string m.pay,.int .i64 m.lo,.int .i64 m.hi,.slice m.aA m.ats.size m.aC,.slice m.mA m.mks.size m.mC,.int .i64 m.dn])∧Below W.heap.size W w':=by
 subst hcs
 obtain ⟨hc,hf⟩:=newG h (Or.inl rfl)
 refine (qiy r W hr hf.c hc).mono ?_
 rintro e w' ⟨⟨m,rfl,hm,_⟩,hb⟩
 refine ⟨m,?_,hb⟩
 rw [←hm.h.1]
 rfl
theorem qhx {w W:World} (h:Below w.heap.size w W) (cs:Array Value) (t:TypeId):BoxG w W.heap.size cs t (W.alloc (.cells cs t)):=⟨qab h _,heap_alloc_new W _⟩
theorem m29_rd (w:World) (T T':TypeId):RdM ((w.alloc (.cells #[.int .i64 3,.int .i64 11] T)).alloc (.cells #[.int .i64 4,.int .i64 0,.int .i64 0] T')) (m29 (some ⟨w.heap.size,0,none⟩) (some ⟨w.heap.size + 1,0,none⟩) 1 3):=by
 have h1:((w.alloc (.cells #[.int .i64 3,.int .i64 11] T)).alloc (.cells #[.int .i64 4,.int .i64 0,.int .i64 0] T')).heap[w.heap.size]?=some (.cells #[.int .i64 3,.int .i64 11] T (0,0)):=((bel1 (w.alloc (.cells #[.int .i64 3,.int .i64 11] T)) _).block _ (by simp)).trans (heap_alloc_new w _)
 have h2:((w.alloc (.cells #[.int .i64 3,.int .i64 11] T)).alloc (.cells #[.int .i64 4,.int .i64 0,.int .i64 0] T')).heap[w.heap.size + 1]?=some (.cells #[.int .i64 4,.int .i64 0,.int .i64 0] T' (0,0)):=heap_alloc2_new w _ _
 refine ⟨fun _=>⟨w.heap.size,0,rfl,qal h1,fun t ht=>?_⟩,fun _=>⟨w.heap.size + 1,0,rfl,qal h2,fun i hi=>?_⟩,by show 1≤1000000;decide,by show 3≤1000000;decide,by show 0≤1000000;decide⟩
 ·have ht':t < 2:=ht
  rw [Nat.zero_add,cell_of_row _ _ t _ _ (0,0) h1]
  rcases (show t=0∨t=1 by omega) with rfl | rfl <;> rw [get_flatK _ _ _ _ ht] <;> rfl
 ·have hi':i < 3:=hi
  rw [Nat.zero_add,cell_of_row _ _ i _ _ (0,0) h2]
  rcases (show i=0∨i=1∨i=2 by omega) with rfl | rfl | rfl <;> rfl
theorem fld_rep7 (v0 v1 v2 v3 v4 v5 v6 v7 v8 v9 v10 v11 v12 v13 v14 v15 v16 v17:Value) (W:World):(Instr.field 35 (.agg #[v0,v1,v2,v3,v4,v5,v6,v7,v8,v9,v10,v11,v12,v13,v14,v15,v16,v17]) 7).run Tryz.prog W=.ok v7 W:=by kernel_rfl
theorem fld_msg0 (v0 v1 v2 v3 v4 v5 v6 v7 v8 v9 v10 v11 v12 v13:Value) (W:World):(Instr.field 37 (.agg #[v0,v1,v2,v3,v4,v5,v6,v7,v8,v9,v10,v11,v12,v13]) 0).run Tryz.prog W=.ok v0 W:=by kernel_rfl
theorem c29_rd {r:RP} {W:World} {n:Nat} {T:TypeId} (hr:RdP W r) (h:W.heap[n]?=some (.cells #[.int .i64 11,.int .i64 1,.int .i64 3,.int .i64 0,.int .i64 0,.int .i64 0,.int .i64 0,.int .i64 6,.string ⟨#[]⟩,.slice none 0 0,.int .i64 21,.int .i64 1,.int .i64 3,.int .i64 0,.int .i64 0,.int .i64 0,.int .i64 0,.int .i64 5,.string ⟨#[]⟩,.slice none 0 0] T (0,0))):RdP W (c29 r (some ⟨n,0,none⟩) 2):=by
 have hE:(#[.int .i64 11,.int .i64 1,.int .i64 3,.int .i64 0,.int .i64 0,.int .i64 0,.int .i64 0,.int .i64 6,.string ⟨#[]⟩,.slice none 0 0,.int .i64 21,.int .i64 1,.int .i64 3,.int .i64 0,.int .i64 0,.int .i64 0,.int .i64 0,.int .i64 5,.string ⟨#[]⟩,.slice none 0 0]:Array Value)=flatK encE 10 #[e11,e21]:=by kernel_rfl
 rw [hE] at h
 refine ⟨⟨fun _=>⟨n,0,rfl,qal h,fun t ht=>?_⟩,fun i hi=>?_⟩,hr.o,hr.k,hr.kk,hr.m,hr.mm,hr.fr,hr.d,hr.dd,hr.it,hr.ss⟩
 ·have ht':t < (flatK encE 10 #[e11,e21]).size:=by rw [size_flatK];exact ht
  rw [Nat.zero_add,cell_of_row _ _ t _ _ (0,0) h,Array.getElem?_eq_getElem ht']
  show _=some (flatK encE 10 #[e11,e21])[t]!
  rw [getElem!_pos _ t ht']
 ·have hi':i < 2:=hi
  rcases (show i=0∨i=1 by omega) with rfl | rfl <;> exact ⟨fun h0=>absurd h0 (Nat.lt_irrefl 0),Nat.zero_le _⟩
set_option maxHeartbeats 32000000 in
theorem aw29_any (w:World):Calls Tryz.prog 8 #[] w fun e w'=>e=.returned (.bool true)∧Below w.heap.size w w':=by
 have hfd1:=fld_rep7
 have hfd2:=fld_msg0
 go_enter Tryz.func8,Tryz.ntmps8
 go_wp2_with fail
 refine (q_new 1 (Or.inl rfl) _).mono ?_
 rintro _ w1 ⟨r,cs,rfl,hcs,hn,hr,hb1⟩
 obtain ⟨hsz,hone⟩:=rowP hcs
 have HN:=hI hn
 have HCS:=hI hcs
 have HX:=hI (qhx hb1 cs 35)
 have HR:=hI (hr.below (bel1 w1 (.cells cs 35)))
 clear hb1 hr hn hcs
 have x1:=HX.out.box hsz
 have x2:=HX.out.rowAt
 go_wp2_with fail
 refine (q_tick r cs HCS.out HN.out _ HR.out).mono ?_
 rintro _ w2 ⟨ca,ba,oa,na,rfl,hsza,honea,h6,hba,f1,f15,hb⟩
 have HX2:=hI ((HX.out.next hb).next (bel1 w2 (.cells ca 35)))
 have HR2:=hI ((HR.out.below hb).below (bel1 w2 (.cells ca 35)))
 have HA:=hI (qhx (qaa HX.out.b hb) ca 35)
 have HF1:Hid ((w2.alloc (.cells ca 35)).cell? ⟨ba,oa + 1,none⟩=some (.int .i64 10)):=((bel1 w2 (.cells ca 35)).cell (p:=⟨ba,oa + 1,none⟩) hba).trans f1
 have HF15:Hid ((w2.alloc (.cells ca 35)).cell? ⟨ba,oa + 15,none⟩=some (.int .i64 3)):=((bel1 w2 (.cells ca 35)).cell (p:=⟨ba,oa + 15,none⟩) hba).trans f15
 have H6:=hI h6
 clear hb f1 f15 hba h6 HX HR x1 x2
 go_upto_region 3 with fail
 obtain ⟨w3,hw3⟩:∃ W,W=w2.alloc (.cells ca 35):=⟨_,rfl⟩
 rw [←hw3] at HX2 HR2 HA HF1 HF15 ⊢
 clear hw3
 have y1:=HF1.out
 have y2:=HF15.out
 have y3:=HA.out.at_ 6 H6.out
 go_upto_region 5 with fail
 clear y1 y2 y3 HA HF1 HF15 H6
 go_wp2_with fail
 refine (q_new 2 (Or.inr rfl) _).mono ?_
 rintro _ w4 ⟨r2,c2,rfl,hc2,hn2,hr2,hb⟩
 obtain ⟨hsz2,hone2⟩:=rowP hc2
 have HN2:=hI hn2
 have HC2:=hI hc2
 have HX4:=hI ((HX2.out.next hb).next (bel1 w4 (.cells c2 35)))
 have HR4:=hI ((HR2.out.below hb).below (bel1 w4 (.cells c2 35)))
 have HB4:=hI (qhx (qaa HX2.out.b hb) c2 35)
 have HRB:=hI (hr2.below (bel1 w4 (.cells c2 35)))
 clear hb hc2 hn2 hr2 HX2 HR2
 go_upto_region 6 with fail
 obtain ⟨w5,hw5⟩:∃ W,W=w4.alloc (.cells c2 35):=⟨_,rfl⟩
 rw [←hw5] at HX4 HR4 HB4 HRB ⊢
 clear hw5
 have x1:=HB4.out.box hsz2
 have x2:=HB4.out.rowAt
 have HM5:=hI (m29_rd w5 29 3)
 have HB6:Hid (Below w5.heap.size w5 ((w5.alloc (.cells #[.int .i64 3,.int .i64 11] 29)).alloc (.cells #[.int .i64 4,.int .i64 0,.int .i64 0] 3))):=qab (bel1 w5 _) _
 go_wp2_with fail
 refine (q_prom r2 c2 HC2.out HN2.out (some ⟨w5.heap.size,0,none⟩) (some ⟨w5.heap.size + 1,0,none⟩) 1 3 _ (HRB.out.below HB6.out) HM5.out).mono ?_
 rintro _ w6 ⟨s,cb,rfl,hcb,hfs,hms,hfz,hrs,hb⟩
 obtain ⟨hszb,honeb⟩:=rowP hcb
 obtain ⟨bf,off,hA,hbf,ff⟩:=hrs.fr.rd.at_ (i:=0) (by rw [hfz];exact Nat.zero_lt_succ _)
 have h11:cb[11]?=some (.slice (some ⟨bf,off,none⟩) 3 s.fr.c):=by
  rw [hcb]
  show some (Value.slice s.fr.A s.fr.z.size s.fr.c)=_
  rw [hA,hfz]
  rfl
 have hf0:w6.cell? ⟨bf,off,none⟩=some (.int .i64 1):=by rw [hfz] at ff;exact ff
 have HX6:=hI (((HX4.out.next HB6.out).next hb).next (bel1 w6 (.cells cb 35)))
 have HR6:=hI (((HR4.out.below HB6.out).below hb).below (bel1 w6 (.cells cb 35)))
 have HBB:=hI (qhx (qaa (qaa HX4.out.b HB6.out) hb) cb 35)
 have HRS:=hI (hrs.below (bel1 w6 (.cells cb 35)))
 have HF0:Hid ((w6.alloc (.cells cb 35)).cell? ⟨bf,off,none⟩=some (.int .i64 1)):=((bel1 w6 (.cells cb 35)).cell (p:=⟨bf,off,none⟩) hbf).trans hf0
 have hbf2:bf < (w6.alloc (.cells cb 35)).heap.size:=by simp;omega
 have H11:=hI h11
 have HCB:=hI hcb
 have HFS:=hI hfs
 have HMS:=hI hms
 clear hb hcb hfs hms hfz hrs hA ff h11 hf0 hbf x1 x2 HM5 HB6 HX4 HR4 HB4 HRB HN2 HC2
 go_upto_region 7 with fail
 obtain ⟨w7,hw7⟩:∃ W,W=w6.alloc (.cells cb 35):=⟨_,rfl⟩
 rw [←hw7] at HX6 HR6 HBB HRS HF0 hbf2 ⊢
 clear hw7
 have x1:=HBB.out.box hszb
 have x2:=HBB.out.rowAt
 go_wp2_with fail
 refine (pr_marks s cb HCB.out HFS.out #[2,0,0] HMS.out _ HRS.out).mono ?_
 rintro _ w8 ⟨A8,c8,rfl,hr8,hb8⟩
 have HX8:=hI (HX6.out.next hb8)
 have HR8:=hI (HR6.out.below hb8)
 have HBB8:=hI (HBB.out.next hb8)
 have HF8:Hid (w8.cell? ⟨bf,off,none⟩=some (.int .i64 1)):=(hb8.cell (p:=⟨bf,off,none⟩) hbf2).trans HF0.out
 have hbf8:bf < w8.heap.size:=Nat.lt_of_lt_of_le hbf2 hb8.size
 have HS8:=hI (sameLit w8 A8 c8 #[2,0,0] #[.int .i64 2,.int .i64 0,.int .i64 0] hr8 (by simp [qcv]) (by decide))
 clear hb8 hr8 x1 x2 HX6 HR6 HBB HRS HF0 hbf2
 go_wp2_with fail
 refine HS8.out.mono ?_
 rintro _ w9 ⟨rfl,hb9⟩
 have hb89:Below w8.heap.size w8 w9:=qaa (bel1 w8 (.cells #[.int .i64 2,.int .i64 0,.int .i64 0] 3)) hb9
 have HX9:=hI (HX8.out.next hb89)
 have HR9:=hI (HR8.out.below hb89)
 have HBB9:=hI (HBB8.out.next hb89)
 have y1:=HBB9.out.at_ 11 H11.out
 have y2:w9.cell? ⟨bf,off,none⟩=some (.int .i64 1):=(hb89.cell (p:=⟨bf,off,none⟩) hbf8).trans HF8.out
 have x1:=HX9.out.box hsz
 have x2:=HX9.out.rowAt
 clear hb9 hb89 HS8 HX8 HR8 HBB8 HF8
 go_upto_region 10 with fail
 clear y1 y2 x1 x2 HBB9 HCB HFS HMS H11
 have HC10:=hI (qhx HX9.out.b cs 35)
 have HX10:=hI (HX9.out.next (bel1 w9 (.cells cs 35)))
 have HR10:=hI (HR9.out.below (bel1 w9 (.cells cs 35)))
 have hg9:w.heap.size≤w9.heap.size:=HX9.out.b.size
 have hg19:w1.heap.size < w9.heap.size:=HX9.out.lt
 obtain ⟨g9,hg⟩:∃ g,w9.heap.size=g:=⟨_,rfl⟩
 obtain ⟨w10,hw10⟩:∃ W,W=w9.alloc (.cells cs 35):=⟨_,rfl⟩
 rw [←hw10] at HC10 HX10 HR10 ⊢
 have HB10:Hid (Below g9 w9 w10):=by show Below _ _ _;rw [hw10,←hg];exact bel1 w9 _
 rw [hg] at HC10 hg9 hg19 ⊢
 have HG9:Hid (w9.heap.size=g9):=hg
 clear hw10 hg HX9
 have c6:=HC10.out.at_ 6 (v:=.int .i64 r.ticks) (by rw [HCS.out];rfl)
 have f6:=HC10.out.froz 6
 go_upto_region 11 with fail
 have HC11:=hI (HC10.out.set hg9 6 (.int .i64 24))
 have HX11:=hI (HX10.out.far (g2:=g9) hg9 (by omega) 6 (.int .i64 24))
 have HB11:Hid (Below g9 w9 (w10.setCell ⟨g9,6,none⟩ (.int .i64 24))):=HB10.out.setCell (p:=⟨g9,6,none⟩) (Nat.le_refl _) _
 obtain ⟨w11,hw11⟩:∃ W,W=w10.setCell ⟨g9,6,none⟩ (.int .i64 24):=⟨_,rfl⟩
 rw [←hw11] at HC11 HX11 HB11 ⊢
 clear hw11 c6 f6 HC10 HX10 HB10
 have c7:=HC11.out.at_ 7 (v:=.slice r.e.A r.e.z.size r.e.c) (by rw [HCS.out];rfl)
 have f7:=HC11.out.froz 7
 have hl11:=HC11.out.lt
 go_upto_region 12 with fail
 have HC12:=hI ((HC11.out.set hg9 7 (.slice (some ⟨w11.heap.size,0,none⟩) 2 2)).next (bel1 _ (.cells #[.int .i64 11,.int .i64 1,.int .i64 3,.int .i64 0,.int .i64 0,.int .i64 0,.int .i64 0,.int .i64 6,.string ⟨#[]⟩,.slice none 0 0,.int .i64 21,.int .i64 1,.int .i64 3,.int .i64 0,.int .i64 0,.int .i64 0,.int .i64 0,.int .i64 5,.string ⟨#[]⟩,.slice none 0 0] 58)))
 have HX12:=hI ((HX11.out.far (g2:=g9) hg9 (by omega) 7 (.slice (some ⟨w11.heap.size,0,none⟩) 2 2)).next (bel1 _ (.cells #[.int .i64 11,.int .i64 1,.int .i64 3,.int .i64 0,.int .i64 0,.int .i64 0,.int .i64 0,.int .i64 6,.string ⟨#[]⟩,.slice none 0 0,.int .i64 21,.int .i64 1,.int .i64 3,.int .i64 0,.int .i64 0,.int .i64 0,.int .i64 0,.int .i64 5,.string ⟨#[]⟩,.slice none 0 0] 58)))
 have HB12:Hid (Below g9 w9 ((w11.setCell ⟨g9,7,none⟩ (.slice (some ⟨w11.heap.size,0,none⟩) 2 2)).alloc (.cells #[.int .i64 11,.int .i64 1,.int .i64 3,.int .i64 0,.int .i64 0,.int .i64 0,.int .i64 0,.int .i64 6,.string ⟨#[]⟩,.slice none 0 0,.int .i64 21,.int .i64 1,.int .i64 3,.int .i64 0,.int .i64 0,.int .i64 0,.int .i64 0,.int .i64 5,.string ⟨#[]⟩,.slice none 0 0] 58))):=(HB11.out.setCell (p:=⟨g9,7,none⟩) (Nat.le_refl _) _).alloc (by simp;omega) _
 have HE12:Hid (((w11.setCell ⟨g9,7,none⟩ (.slice (some ⟨w11.heap.size,0,none⟩) 2 2)).alloc (.cells #[.int .i64 11,.int .i64 1,.int .i64 3,.int .i64 0,.int .i64 0,.int .i64 0,.int .i64 0,.int .i64 6,.string ⟨#[]⟩,.slice none 0 0,.int .i64 21,.int .i64 1,.int .i64 3,.int .i64 0,.int .i64 0,.int .i64 0,.int .i64 0,.int .i64 5,.string ⟨#[]⟩,.slice none 0 0] 58)).heap[w11.heap.size]?=some (.cells #[.int .i64 11,.int .i64 1,.int .i64 3,.int .i64 0,.int .i64 0,.int .i64 0,.int .i64 0,.int .i64 6,.string ⟨#[]⟩,.slice none 0 0,.int .i64 21,.int .i64 1,.int .i64 3,.int .i64 0,.int .i64 0,.int .i64 0,.int .i64 0,.int .i64 5,.string ⟨#[]⟩,.slice none 0 0] 58 (0,0))):=by
  have:=heap_alloc_new (w11.setCell ⟨g9,7,none⟩ (.slice (some ⟨w11.heap.size,0,none⟩) 2 2)) (.cells #[.int .i64 11,.int .i64 1,.int .i64 3,.int .i64 0,.int .i64 0,.int .i64 0,.int .i64 0,.int .i64 6,.string ⟨#[]⟩,.slice none 0 0,.int .i64 21,.int .i64 1,.int .i64 3,.int .i64 0,.int .i64 0,.int .i64 0,.int .i64 0,.int .i64 5,.string ⟨#[]⟩,.slice none 0 0] 58)
  rwa [show (w11.setCell ⟨g9,7,none⟩ (.slice (some ⟨w11.heap.size,0,none⟩) 2 2)).heap.size=w11.heap.size by simp] at this
 obtain ⟨w12,hw12⟩:∃ W,W=(w11.setCell ⟨g9,7,none⟩ (.slice (some ⟨w11.heap.size,0,none⟩) 2 2)).alloc (.cells #[.int .i64 11,.int .i64 1,.int .i64 3,.int .i64 0,.int .i64 0,.int .i64 0,.int .i64 0,.int .i64 6,.string ⟨#[]⟩,.slice none 0 0,.int .i64 21,.int .i64 1,.int .i64 3,.int .i64 0,.int .i64 0,.int .i64 0,.int .i64 0,.int .i64 5,.string ⟨#[]⟩,.slice none 0 0] 58):=⟨_,rfl⟩
 rw [←hw12] at HC12 HX12 HB12 HE12 ⊢
 clear hw12 c7 f7 hl11 HC11 HX11 HB11
 obtain ⟨n,hn⟩:∃ n,w11.heap.size=n:=⟨_,rfl⟩
 rw [hn] at HC12 HE12 ⊢
 clear hn
 obtain ⟨cc,hcc⟩:∃ cc,cc=(encP (c29 r (some ⟨n,0,none⟩) 2)).toArray:=⟨_,rfl⟩
 have hset:(cs.setIfInBounds 6 (.int .i64 24)).setIfInBounds 7 (.slice (some ⟨n,0,none⟩) 2 2)=cc:=by rw [HCS.out,hcc];rfl
 rw [hset] at HC12
 obtain ⟨hszc,honec⟩:=rowP hcc
 have HCC:=hI hcc
 have HR12:=hI (HR9.out.below (by rw [HG9.out];exact HB12.out))
 have HRC:=hI (c29_rd HR12.out HE12.out)
 have x1:=HX12.out.box hsz
 have x2:=HX12.out.rowAt
 clear hset hcc HR9 HG9 HB12 HE12 hg9 hg19
 go_wp2_with fail
 refine (q_front r cs HCS.out HN.out _ HR12.out).mono ?_
 rintro _ w13 ⟨cd,bd,od,nd,rfl,hszd,honed,h11,hbd,hd0,hb⟩
 have HX14:=hI ((HX12.out.next hb).next (bel1 w13 (.cells cd 35)))
 have HC14:=hI ((HC12.out.next hb).next (bel1 w13 (.cells cd 35)))
 have HR14:=hI ((HR12.out.below hb).below (bel1 w13 (.cells cd 35)))
 have HRC14:=hI ((HRC.out.below hb).below (bel1 w13 (.cells cd 35)))
 have HD14:=hI (qhx (qaa HX12.out.b hb) cd 35)
 have HF14:Hid ((w13.alloc (.cells cd 35)).cell? ⟨bd,od,none⟩=some (.int .i64 5)):=((bel1 w13 (.cells cd 35)).cell (p:=⟨bd,od,none⟩) hbd).trans hd0
 have hbd2:bd < (w13.alloc (.cells cd 35)).heap.size:=by simp;omega
 have H11:=hI h11
 clear hb h11 hd0 hbd x1 x2 HX12 HC12 HR12 HRC
 go_upto_region 13 with fail
 obtain ⟨w14,hw14⟩:∃ W,W=w13.alloc (.cells cd 35):=⟨_,rfl⟩
 rw [←hw14] at HX14 HC14 HR14 HRC14 HD14 HF14 hbd2 ⊢
 clear hw14
 have x1:=HC14.out.box hszc
 have x2:=HC14.out.rowAt
 go_wp2_with fail
 refine (q_due r _ _ cc HCC.out HN.out _ HRC14.out).mono ?_
 rintro _ w15 ⟨B,d,rfl,hr15,hb⟩
 have HS15:=hI (sameLit w15 B d #[11] #[.int .i64 11] hr15 (by simp [qcv]) (by decide))
 have HX15:=hI (HX14.out.next hb)
 have HC15:=hI (HC14.out.next hb)
 have HR15:=hI (HR14.out.below hb)
 have HRC15:=hI (HRC14.out.below hb)
 have HD15:=hI (HD14.out.next hb)
 have HF15:Hid (w15.cell? ⟨bd,od,none⟩=some (.int .i64 5)):=(hb.cell (p:=⟨bd,od,none⟩) hbd2).trans HF14.out
 have hbd15:bd < w15.heap.size:=Nat.lt_of_lt_of_le hbd2 hb.size
 clear hb hr15 x1 x2 HX14 HC14 HR14 HRC14 HD14 HF14 hbd2
 go_wp2_with fail
 refine HS15.out.mono ?_
 rintro _ w16 ⟨rfl,hb16⟩
 have hb:Below w15.heap.size w15 w16:=qaa (bel1 w15 (.cells #[.int .i64 11] 3)) hb16
 have HX16:=hI (HX15.out.next hb)
 have HC16:=hI (HC15.out.next hb)
 have HR16:=hI (HR15.out.below hb)
 have HRC16:=hI (HRC15.out.below hb)
 have HD16:=hI (HD15.out.next hb)
 have HF16:Hid (w16.cell? ⟨bd,od,none⟩=some (.int .i64 5)):=(hb.cell (p:=⟨bd,od,none⟩) hbd15).trans HF15.out
 have hbd16:bd < w16.heap.size:=Nat.lt_of_lt_of_le hbd15 hb.size
 clear hb hb16 HS15 HX15 HC15 HR15 HRC15 HD15 HF15 hbd15
 have x1:=HC16.out.box hszc
 have x2:=HC16.out.rowAt
 go_wp2_with fail
 refine (q_aged r _ _ cc HCC.out HN.out _ HRC16.out).mono ?_
 rintro _ w17 ⟨s2,b2,o2,d2,rfl,h17,hb⟩
 have h17':w17.cell? ⟨b2,o2 + 17,none⟩=some (.int .i64 6):=h17
 have HX17:=hI (HX16.out.next hb)
 have HC17:=hI (HC16.out.next hb)
 have HR17:=hI (HR16.out.below hb)
 have HRC17:=hI (HRC16.out.below hb)
 have HD17:=hI (HD16.out.next hb)
 have HF17:Hid (w17.cell? ⟨bd,od,none⟩=some (.int .i64 5)):=(hb.cell (p:=⟨bd,od,none⟩) hbd16).trans HF16.out
 have hbd17:bd < w17.heap.size:=Nat.lt_of_lt_of_le hbd16 hb.size
 clear hb x1 x2 HX16 HC16 HR16 HRC16 HD16 HF16 hbd16
 have x1:=HC17.out.box hszc
 have x2:=HC17.out.rowAt
 go_wp2_with fail
 refine (q_tell r _ _ cc HCC.out HN.out _ HRC17.out).mono ?_
 rintro _ w18 ⟨B3,d3,rfl,hb⟩
 have HX18:=hI (HX17.out.next hb)
 have HR18:=hI (HR17.out.below hb)
 have HD18:=hI (HD17.out.next hb)
 have HF18:Hid (w18.cell? ⟨bd,od,none⟩=some (.int .i64 5)):=(hb.cell (p:=⟨bd,od,none⟩) hbd17).trans HF17.out
 have hbd18:bd < w18.heap.size:=Nat.lt_of_lt_of_le hbd17 hb.size
 clear hb x1 x2 h17 h17' HX17 HC17 HR17 HRC17 HD17 HF17 hbd17
 have x1:=HX18.out.box hsz
 have x2:=HX18.out.rowAt
 go_wp2_with fail
 refine (q_prms r cs HCS.out HN.out _ HR18.out).mono ?_
 rintro _ w19 ⟨m,rfl,hb⟩
 have HX19:=hI (HX18.out.next hb)
 have HD19:=hI (HD18.out.next hb)
 have y2:w19.cell? ⟨bd,od,none⟩=some (.int .i64 5):=(hb.cell (p:=⟨bd,od,none⟩) hbd18).trans HF18.out
 have y1:=HD19.out.at_ 11 H11.out
 clear hb x1 x2 HX18 HR18 HD18 HF18
 go_wp2
 go_ret
 exact ⟨rfl,HX19.out.b⟩
end Go.Proofs.YtlkmagmdhopcjaaGreat
