/- Texts that the law leans on. -/
import Derived.Defers
import Derived.Test.YtlkmagmdhopcjaaGreatQOrT
import Derived.Test.YtlkmagmdhopcjaaGreatQGoB
import Derived.Test.YtlkmagmdhopcjaaGreatQMsgF
import Derived.Test.YtlkmagmdhopcjaaGreatQClP
namespace Go.Proofs.YtlkmagmdhopcjaaGreat
open Go.RowKit Go.Sort Go.Lib
set_option maxRecDepth 100000
attribute [local go_sem ↓] qak qai qeo qfp
attribute [local go_sem] qan qaj qah qap qbb qgw qhm qkr
theorem qdu {fn:Func} {t u:Tmp} (hf:fn.results=#[.cell t 35,.cell u 41]) {tm:Array Value} {W:World} {g q:Nat} {cs:Array Value} {A:Option Addr} {n c:Nat} {T T':TypeId} (hg:tm.getD t undef=.pointer (some ⟨g,0,none⟩)) (hq:tm.getD u undef=.pointer (some ⟨q,0,none⟩)) (h:W.heap[g]?=some (.cells cs T (0,0))) (hc:cs.size=18) (h2:W.heap[q]?=some (.cells #[.slice A n c] T' (0,0))):(results fn tm).run Tryz.prog W=.ok (.tuple #[.agg cs,.slice A n c]) W:=by
 have hg2:tm[t]?.getD undef=.pointer (some ⟨g,0,none⟩):=by rw [←Array.getD_eq_getD_getElem?];exact hg
 have hq2:tm[u]?.getD undef=.pointer (some ⟨q,0,none⟩):=by rw [←Array.getD_eq_getD_getElem?];exact hq
 have c0:W.cell? ⟨q,0,none⟩=some (.slice A n c):=(cell_of_row W _ 0 _ _ (0,0) h2).trans rfl
 have hx:(loadVar 41 ⟨q,0,none⟩).run Tryz.prog W=.ok (.slice A n c) W:=by
  simp [go_sem,loadVar,c0]
 simp [results,hf,hg2,hq2,asAddr,qfn h hc,hx]
theorem qvv {t:RP} {e:EN} {B:Int} {u:RP} {p:EN} (h:RprR t e B u p true) (hf:FewC t) (ho:t.o.z.size≤999) (hp:e.pay.size≤1000) (hc:chkR t=true):(chkR u=true∧FewC u)∧p.z=#[]∧p.A=none∧p.c=0∧p.pay.size≤1000:=by
 rcases h with ⟨h1,_⟩ | ⟨_,r1,t1,h2,h3,h4,h5,h6⟩
 ·cases h1
 ·obtain ⟨a1,a2,a3,a4⟩:=prB_nil e B t1
  have hf1:FewC r1:=by
   rcases h2 with ⟨_,rfl,_⟩ | ⟨_,h2⟩
   ·exact hf
   ·exact qve hf ho h2
  rw [h3] at h4 h6 ⊢
  have:=qps (y:=u.e) hf1 h4 h6 (by rw [a2];exact Nat.zero_le _) (by rw [a4];exact hp)
  rw [←h5] at this
  exact ⟨this,a2,a1,a3,by rw [a4];exact hp⟩
structure StW (w:World) (cs co:Array Value) (A:Option Addr) (k c:Nat) (W:World):Prop where
 x:BoxG w w.heap.size cs 35 W
 o:BoxG w (w.heap.size + 1) co 35 W
 l:BoxG w (w.heap.size + 1 + 1) #[.slice A k c] 41 W
theorem StW.next {w W W':World} {cs co:Array Value} {A:Option Addr} {k c:Nat} (h:StW w cs co A k c W) (hb:Below W.heap.size W W'):StW w cs co A k c W':=⟨h.x.next hb,h.o.next hb,h.l.next hb⟩
theorem StW.rowTo {w W:World} {cs co:Array Value} {A:Option Addr} {k c:Nat} (h:StW w cs co A k c W) {g:Nat} (hg:w.heap.size + 1 + 1 < g) (d:Array Value):StW w cs co A k c (W.setRow g d):=⟨h.x.rowTo (by omega) (by omega),h.o.rowTo (by omega) (by omega),h.l.rowTo (by omega) (by omega)⟩
theorem belA {B:Nat} {w W W':World} (h:Below B w W) (hb:Below W.heap.size W W') (hB:B < W.heap.size):Below B w W':=h.trans (hb.mono (by omega))
structure RgC (t:RP) (w w6:World) (cs c1:Array Value) (a:Nat) (p u:EN) (cq:Array Value) (oka:Bool) (W:World):Prop where
 q:cq=(encE u).toArray
 ok:oka=qqi p (ansK t.self p)
 u1:oka=true→u={ p with A:=u.A,c:=u.c,z:=p.z.push (ansK t.self p) }
 s:StW w cs cs none 0 0 W
 ba:BoxG w a c1 35 W
 bm:BoxG w (a + 1) cq 58 W
 b6:Below a w6 W
 ru:RdE W u
 fu:FreshA (a + 1 + 1) u.A
theorem rgC_of {t:RP} {w w6 W:World} {cs c1:Array Value} {a B:Nat} {p u:EN} {cp cq:Array Value} {oka:Bool} (hs:StW w cs cs none 0 0 W) (hA:BoxG w a c1 35 W) (hM:BoxG w (a + 1) cp 58 W) (h6:Below a w6 W) (hq:cq=(encE u).toArray) (hok:oka=qqi p (ansK t.self p)) (h0:oka=false→u=p)
 (h1:oka=true→u={ p with A:=u.A,c:=u.c,z:=p.z.push (ansK t.self p) }∧RdK encK 6 W.heap.size W u.A u.z∧u.z.size≤u.c∧FreshA B u.A) (hB:a + 1 < B) (hp:∀ W,RdE W p) (hpz:p.z=#[]∧p.A=none∧p.pay.size≤1000) (hwa:w.heap.size + 1 + 1 < a):RgC t w w6 cs c1 a p u cq oka (W.setRow (a + 1) cq):=by
 refine ⟨hq,hok,fun h=>(h1 h).1,hs.rowTo (by omega) _,hA.rowTo (by omega) (by omega),hM.rowOn (by omega),qbn h6 (by omega) _,?_,?_⟩
 ·cases oka
  ·rw [h0 rfl];exact hp _
  ·obtain ⟨a1,a2,a3,a4⟩:=h1 rfl
   have hz:u.z.size=1:=by rw [a1,hpz.1];rfl
   have hy:u.pay=p.pay:=by rw [a1]
   refine ⟨?_,a3,by omega,by rw [hy];exact hpz.2.2⟩
   rw [show (W.setRow (a + 1) cq).heap.size=W.heap.size by simp]
   exact a2.farG (g:=a + 1) (fun _ x hx=>by have:=a4 x hx;omega) (fun b hb=>setRow_other _ _ b _ hb)
 ·cases oka
  ·rw [h0 rfl,hpz.2.1];exact fun x hx=>by cases hx
  ·exact ((h1 rfl).2.2.2).mono (by omega)
theorem RgC.next {t:RP} {w w6 W W':World} {cs c1:Array Value} {a:Nat} {p u:EN} {cq:Array Value} {oka:Bool} (h:RgC t w w6 cs c1 a p u cq oka W) (hb:Below W.heap.size W W'):RgC t w w6 cs c1 a p u cq oka W' :=
 ⟨h.q,h.ok,h.u1,h.s.next hb,h.ba.next hb,h.bm.next hb,belA h.b6 hb h.ba.lt,h.ru.below hb,h.fu⟩
theorem start_sep {t u1:RP} {u:EN} {y:RW EN} {w w6 w12 W:World} {a q:Nat} (h:SepR t q w6 u1) (ha:w6.heap.size=a) (h6:∀ j,q≤j→j < a→W.heap[j]?=w6.heap[j]?) (h12:∀ j,a + 1 + 1≤j→j < w12.heap.size→W.heap[j]?=w12.heap[j]?) (hs:w12.heap.size≤W.heap.size) (haw:a≤w12.heap.size) (hq:w.heap.size≤q) (hwa:w.heap.size≤a)
 (hy:y.z=putD u1.e.z u) (hr:RdK encE 10 w12.heap.size w12 y.A y.z) (ru:RdE w12 u) (fu:FreshA (a + 1 + 1) u.A) (fy:FreshA (a + 1 + 1) y.A):SepR t w.heap.size W { u1 with e:=y }:=fun V hP ho hz=>by
 refine qtk (w1:=w12) (B:=a + 1 + 1) hy hr fy (fun V' _ h2 h3=>⟨ru.rd.sepG fu h2 h3,ru.cz⟩) V (h V hP (fun j j1 j2=>(ho j (by omega) (by omega)).trans (h6 j j1 (by omega))) (by omega)) (fun j j1 j2=>?_) (by omega)
 by_cases hj:w.heap.size≤j
 ·exact (ho j hj (by omega)).trans (h12 j j1 j2)
 ·omega
set_option maxHeartbeats 1000000 in
theorem qvw (l a o:Nat) (A:Option Addr) (k c:Nat) (c2 co:Array Value) (T1 T2 T3:TypeId) (u:FrameMode) (w:World) (h1:w.heap[l]?=some (.cells #[.slice A k c] T1 (0,0))) (h2:w.heap[a]?=some (.cells c2 T2 (0,0))) (h3:w.heap[o]?=some (.cells co T3 (0,0))) (hc:c2.size=18) (hc1:qcf c2=true) (ho:co.size=18) :
 CallsD Tryz.prog 133 #[.pointer (some ⟨l,0,none⟩),.pointer (some ⟨a,0,none⟩),.pointer (some ⟨o,0,none⟩)] u w fun e u' w'=>u'=u∧(e=.returned (.tuple #[])∧w'=if k=0 then w else w.setRow o c2):=by
 have l0:w.cell? ⟨l,0,none⟩=some (.slice A k c):=(cell_of_row w _ 0 _ _ (0,0) h1).trans rfl
 have x1:=qbk h2 hc
 have x2:=qch h2
 have x3:=qbk h3 ho
 clear h1 h2 h3
 by_cases hk:k=0
 ·subst hk
  rw [if_pos rfl]
  go_enter_d Tryz.func133,Tryz.ntmps133
  go_wp2
  go_end0
  exact ⟨rfl,rfl⟩
 ·have hk1:decide ((0:Int) < (k:Int))=true:=decide_eq_true (by omega)
  rw [if_neg hk]
  go_enter_d Tryz.func133,Tryz.ntmps133
  go_wp2
  go_end0
  exact ⟨rfl,rfl⟩
set_option maxHeartbeats 16000000 in
theorem qye (t:RP) (id:Int) (w:World) (h:RdP w t) (hf:FewC t) (ho9:t.o.z.size≤999) (hc:chkR t=true) :
 Calls Tryz.prog 53 #[.agg (encP t).toArray,.int .i64 id] w fun x w'=>StartO StP t id w x w':=by
 have HC:Hid (∀ W,Below w.heap.size w W→Calls Tryz.prog 15 #[.agg (encP t).toArray] W fun e w'=>e=.returned (.int .i64 0)∧Below W.heap.size W w'):=fun W hb=>by
  have:=qbd t W (h.below hb) hf
  rwa [qcj hc] at this
 have HF:Hid (∀ W,Below w.heap.size w W→Calls Tryz.prog 19 #[.slice t.e.A t.e.z.size t.e.c,.int .i64 id] W fun x w'=>(∃ (e:EN) (ok:Bool) (ce:Array Value),x=.returned (.tuple #[.agg ce,.bool ok])∧ce=(encE e).toArray∧FindR t.e.z id (e,ok))∧Below W.heap.size W w'):=fun W hb=>by
  refine (tFind_any t.e.A t.e.c t.e.z id W (h.e.below hb) (by have:=hf.es;omega)).mono fun x w' ⟨⟨r,h1,h2⟩,h3⟩=>⟨⟨r.1,r.2,_,h1,rfl,h2⟩,h3⟩
 have HG:Hid (∀ e,FindR t.e.z id (e,true)→qim e.ph=true→qjp (max e.bal e.seen) t.self t.n=0→∀ (ce:Array Value),ce=(encE e).toArray→∀ W,Below w.heap.size w W→Calls Tryz.prog 132 #[.agg (encP t).toArray,.agg ce,.int .i64 (qii (max e.bal e.seen) t.self t.n)] W fun x w'=>(∃ (s:RP) (p:EN) (ok:Bool) (c1 cp:Array Value),x=.returned (.tuple #[.agg c1,.agg cp,.bool ok])∧c1=(encP s).toArray∧cp=(encE p).toArray∧RprR t e (qii (max e.bal e.seen) t.self t.n) s p ok∧SepR t W.heap.size w' s)∧Below W.heap.size W w'):=fun e hfi hop hnx ce hce W hb=>by
  obtain ⟨i,hi,hie,_⟩:=qla hfi
  have hck:qcg e=true:=by rw [←hie];exact tab_at (qkk hc) hi
  obtain ⟨hh,hn⟩:=qpr hck
  have he:RdE W e:=by rw [←hie];exact ((h.below hb).tab hf).el i hi
  obtain ⟨hv,hbl⟩:=qrj hnx
  rw [hce]
  refine (qri t e _ W (h.below hb) he hf ho9 hc hck ?_ hv hbl ⟨hh.1,hh.2.1,hh.2.2.1⟩).mono fun x w' ⟨⟨s,p,ok,h1,h2,h3⟩,h4⟩=>⟨⟨s,p,ok,_,_,h1,rfl,rfl,h2,h3⟩,h4⟩
  unfold qim at hop
  unfold qdx
  have:=of_decide_eq_true hop
  exact decide_eq_false (by omega)
 have HRD:=hI h
 have HFC:=hI hf
 have HCK:=hI hc
 have HO9:=hI ho9
 obtain ⟨cs,hcs⟩:∃ cs,cs=(encP t).toArray:=⟨_,rfl⟩
 obtain ⟨hsz,hone⟩:=rowP hcs
 have HQ0:Hid (cs[0]?=some (.int .i64 t.n)):=by show _=_;rw [hcs];rfl
 have HQ2:Hid (cs[2]?=some (.int .i64 t.self)):=by show _=_;rw [hcs];rfl
 have HQ7:Hid (cs[7]?=some (.slice t.e.A t.e.z.size t.e.c)):=by show _=_;rw [hcs];rfl
 have HCS:=hI hcs
 have hmf:∀ (fn:Fn) (first cap:Array Value) (w:World),(Instr.makeFunc fn first cap).run Tryz.prog w=.ok (.func fn first cap) w:=fun _ _ _ _=>rfl
 rw [←hcs] at HC HG ⊢
 clear h hf ho9 hc hcs
 go_enter_defers Tryz.func53,Tryz.ntmps53
 go_upto_region 1 with fail
 have HX0:=hI (BoxG.t1 w cs qbq #[.slice none 0 0] 35 35 41)
 have HO0:=hI (BoxG.t2 w cs qbq #[.slice none 0 0] 35 35 41)
 have HL0:=hI (BoxG.t3 w cs qbq #[.slice none 0 0] 35 35 41)
 simp only [qbq] at HX0 HO0 HL0
 generalize (((w.alloc (.cells cs 35)).alloc (.cells #[.int .i64 0,.int .i64 0,.int .i64 0,.int .i64 0,.int .i64 0,.int .i64 0,.int .i64 0,.slice none 0 0,.slice none 0 0,.slice none 0 0,.slice none 0 0,.slice none 0 0,.slice none 0 0,.int .i64 0,.int .i64 0,.int .i64 0,.slice none 0 0,.slice none 0 0] 35)).alloc (.cells #[.slice none 0 0] 41))=w0 at HX0 HO0 HL0 ⊢
 obtain ⟨n,hn⟩:∃ n,w.heap.size=n:=⟨_,rfl⟩
 have HNW:=hI hn
 have x1:=HX0.out.box hsz
 have x2:=HX0.out.rowAt
 have o1:=HO0.out.box (n:=18) rfl
 rw [hn] at x1 x2 o1 ⊢
 go_upto_region 2 with fail
 have HS1:Hid (StW w cs cs none 0 0 (w0.setRow (n + 1) cs)):=hI ⟨HX0.out.rowTo (by omega) (by omega),by rw [←hn];exact HO0.out.rowOn (by omega),HL0.out.rowTo (by omega) (by omega)⟩
 generalize w0.setRow (n + 1) cs=w1 at HS1 ⊢
 clear HX0 HO0 HL0 x1 x2 o1
 have c7:=HS1.out.x.at_ 7 HQ7.out
 rw [hn] at c7
 go_upto_region 3 with (go_at_call 19;refine (HF.out _ HS1.out.x.b).mono ?_;rintro _ w2 ⟨⟨e,ok,ce,rfl,hce,hfi⟩,hb⟩;have HS2:=hI (HS1.out.next hb);have HFI:=hI hfi;have HCE:=hI hce;have hs1:ce.size=10:=(by rw [hce];rfl);have ho1:qcf ce=true:=(by rw [hce];exact qgb e);clear hb hfi hce c7)
 have HS3:=hI (HS2.out.next (bel1 w2 (.cells ce 58)))
 have HQ3:=hI (BoxG.newB HS2.out.x.b ce 58)
 have hlq:n + 1 + 1 < w2.heap.size:=by rw [←hn];exact HS2.out.l.lt
 obtain ⟨q,hq⟩:∃ q,w2.heap.size=q:=⟨_,rfl⟩
 rw [hq] at HQ3 hlq ⊢
 generalize w2.alloc (.cells ce 58)=w3 at HS3 HQ3 ⊢
 clear hq HS1 HS2 HF
 have HE1:Hid (ce[1]?=some (.int .i64 e.ph)):=by show _=_;rw [HCE.out];rfl
 have HE4:Hid (ce[4]?=some (.int .i64 e.bal)):=by show _=_;rw [HCE.out];rfl
 have HE6:Hid (ce[6]?=some (.int .i64 e.seen)):=by show _=_;rw [HCE.out];rfl
 have hnw:=hn
 clear hn
 have x1:=HS3.out.x.box hsz
 have x2:=HS3.out.x.rowAt
 have c0:=HS3.out.x.at_ 0 HQ0.out
 have c2:=HS3.out.x.at_ 2 HQ2.out
 have y1:=HQ3.out.box hs1
 have y2:=HQ3.out.rowAt
 have p1:=HQ3.out.at_ 1 HE1.out
 have p4:=HQ3.out.at_ 4 HE4.out
 have p6:=HQ3.out.at_ 6 HE6.out
 rw [HNW.out] at x1 x2 c0 c2
 have HRE:Hid (∀ W,StW w cs cs none 0 0 W→StartO StP t id w (.returned (.tuple #[.agg cs,.slice none 0 0])) W):=fun W hW=>⟨⟨t,⟨none,0,#[]⟩,by rw [HCS.out];rfl,Or.inl ⟨rfl,rfl⟩,SepR.self _ _ _,fun h=>absurd h (by decide),fun _=>rfl⟩,hW.x.b⟩
 cases ok
 ·go_wp2_with (go_at_call 15;refine (HC.out _ HS3.out.x.b).mono ?_;rintro _ w4 ⟨rfl,hb⟩;have HS4:=hI (HS3.out.next hb);have HQ4:=hI (HQ3.out.next hb);clear hb x1 x2 c0 c2 y1 y2 p1 p4 p6;have x1:=HS4.out.x.box hsz;have x2:=HS4.out.x.rowAt;have c0:=HS4.out.x.at_ 0 HQ0.out;have c2:=HS4.out.x.at_ 2 HQ2.out;have y1:=HQ4.out.box hs1;have y2:=HQ4.out.rowAt;have p1:=HQ4.out.at_ 1 HE1.out;have p4:=HQ4.out.at_ 4 HE4.out;have p6:=HQ4.out.at_ 6 HE6.out;rw [HNW.out] at x1 x2 c0 c2)
  have z1:=HS4.out.o.row
  have z2:=HS4.out.l.row
  rw [hnw] at z1 z2
  exact ⟨_,qdu rfl rfl rfl z1 hsz z2,HRE.out _ HS4.out⟩
 obtain ⟨op,hop⟩:∃ b,qim e.ph=b:=⟨_,rfl⟩
 have HOP:Hid (∀ W,Calls Tryz.prog 61 #[.int .i64 e.ph] W fun x w'=>x=.returned (.bool op)∧W=w'):=fun W=>hop ▸ (qht e.ph W).mono fun _ _ h=>⟨h.1,h.2.symm⟩
 have HO:=hI hop
 clear hop
 cases op
 ·go_wp2_with (first | (go_at_call 15;refine (HC.out _ HS3.out.x.b).mono ?_;rintro _ w4 ⟨rfl,hb⟩;have HS4:=hI (HS3.out.next hb);have HQ4:=hI (HQ3.out.next hb);clear hb x1 x2 c0 c2 y1 y2 p1 p4 p6;have x1:=HS4.out.x.box hsz;have x2:=HS4.out.x.rowAt;have c0:=HS4.out.x.at_ 0 HQ0.out;have c2:=HS4.out.x.at_ 2 HQ2.out;have y1:=HQ4.out.box hs1;have y2:=HQ4.out.rowAt;have p1:=HQ4.out.at_ 1 HE1.out;have p4:=HQ4.out.at_ 4 HE4.out;have p6:=HQ4.out.at_ 6 HE6.out;rw [HNW.out] at x1 x2 c0 c2) | (go_at_call 61;refine (HOP.out _).mono ?_;rintro _ _ ⟨rfl,rfl⟩))
  have z1:=HS4.out.o.row
  have z2:=HS4.out.l.row
  rw [hnw] at z1 z2
  exact ⟨_,qdu rfl rfl rfl z1 hsz z2,HRE.out _ HS4.out⟩
 go_upto_region 4 with (first | (go_at_call 15;refine (HC.out _ HS3.out.x.b).mono ?_;rintro _ w4 ⟨rfl,hb⟩;have HS4:=hI (HS3.out.next hb);have HQ4:=hI (HQ3.out.next hb);clear hb x1 x2 c0 c2 y1 y2 p1 p4 p6;have x1:=HS4.out.x.box hsz;have x2:=HS4.out.x.rowAt;have c0:=HS4.out.x.at_ 0 HQ0.out;have c2:=HS4.out.x.at_ 2 HQ2.out;have y1:=HQ4.out.box hs1;have y2:=HQ4.out.rowAt;have p1:=HQ4.out.at_ 1 HE1.out;have p4:=HQ4.out.at_ 4 HE4.out;have p6:=HQ4.out.at_ 6 HE6.out;rw [HNW.out] at x1 x2 c0 c2) | (go_at_call 61;refine (HOP.out _).mono ?_;rintro _ _ ⟨rfl,rfl⟩))
 have HPY:Hid (e.pay.size≤1000):=by obtain ⟨i,hi,h1,_⟩:=qla HFI.out;show _≤_;rw [←h1];exact (HFC.out.ee i hi).2
 have HGE:=hI (HG.out e HFI.out HO.out)
 have HNX:Hid (∀ W,Calls Tryz.prog 131 #[.int .i64 (max e.bal e.seen),.int .i64 t.self,.int .i64 t.n] W fun x w'=>x=.returned (.tuple #[.int .i64 (qii (max e.bal e.seen) t.self t.n),.int .i64 (qjp (max e.bal e.seen) t.self t.n)])∧Below W.heap.size W w'):=fun W=>Next_any _ _ _ W
 obtain ⟨B,hB⟩:∃ b,qii (max e.bal e.seen) t.self t.n=b:=⟨_,rfl⟩
 obtain ⟨X,hX⟩:∃ b,qjp (max e.bal e.seen) t.self t.n=b:=⟨_,rfl⟩
 rw [hB,hX] at HNX
 rw [hX] at HGE
 rw [hB] at HGE
 have HBB:=hI hB
 have HXX:=hI hX
 clear hB hX HG
 go_upto_region 5 with (go_at_call 131;refine (HNX.out _).mono ?_;rintro _ w5 ⟨rfl,hb⟩;have HS5:=hI (HS4.out.next hb);have HQ5:=hI (HQ4.out.next hb);clear hb x1 x2 c0 c2 y1 y2 p1 p4 p6;have x1:=HS5.out.x.box hsz;have x2:=HS5.out.x.rowAt;have c0:=HS5.out.x.at_ 0 HQ0.out;have c2:=HS5.out.x.at_ 2 HQ2.out;have y1:=HQ5.out.box hs1;have y2:=HQ5.out.rowAt;have p1:=HQ5.out.at_ 1 HE1.out;have p4:=HQ5.out.at_ 4 HE4.out;have p6:=HQ5.out.at_ 6 HE6.out;rw [HNW.out] at x1 x2 c0 c2)
 by_cases hx0:X=0
 rotate_left
 ·have hx1:(X != 0)=true:=bne_iff_ne.2 hx0
  go_wp2
  have z1:=HS5.out.o.row
  have z2:=HS5.out.l.row
  rw [hnw] at z1 z2
  exact ⟨_,qdu rfl rfl rfl z1 hsz z2,HRE.out _ HS5.out⟩
 subst hx0
 have HGP:=hI (HGE.out rfl ce HCE.out)
 clear HGE
 go_upto_region 7 with (go_at_call 132;refine (HGP.out _ HS5.out.x.b).mono ?_;rintro _ w6 ⟨⟨u1,p,okp,c1,cp,rfl,hc1,hcp,hrp,hsp⟩,hb⟩;have HS6:=hI (HS5.out.next hb);obtain ⟨hsz1,hone1⟩:=rowP hc1;have hp1:cp.size=10:=(by rw [hcp];rfl);have hp2:qcf cp=true:=(by rw [hcp];exact qgb _);have HC1:=hI hc1;have HCP:=hI hcp;have HRP:=hI hrp;have HQ6:Hid (q + 1≤w6.heap.size):=(by have h1:=HQ5.out.lt;have h2:=hb.size;show _≤_;omega);have HSP:=hI (SepR.monoG (B':=q + 1) hsp HQ5.out.lt);clear hb hc1 hcp hrp hsp x1 x2 c0 c2 y1 y2 p1 p4 p6;have k1:qaq ((w6.alloc (.cells #[.int .i64 0,.int .i64 0,.int .i64 0,.int .i64 0,.int .i64 0,.int .i64 0,.int .i64 0,.slice none 0 0,.slice none 0 0,.slice none 0 0,.slice none 0 0,.slice none 0 0,.slice none 0 0,.int .i64 0,.int .i64 0,.int .i64 0,.slice none 0 0,.slice none 0 0] 35)).alloc (.cells #[.int .i64 0,.int .i64 0,.int .i64 0,.int .i64 0,.int .i64 0,.int .i64 0,.int .i64 0,.int .i64 0,.string ⟨#[]⟩,.slice none 0 0] 58)) w6.heap.size 18=true:=(qbk (qcl (heap_alloc_new w6 _)) rfl);have k2:qaq (((w6.alloc (.cells #[.int .i64 0,.int .i64 0,.int .i64 0,.int .i64 0,.int .i64 0,.int .i64 0,.int .i64 0,.slice none 0 0,.slice none 0 0,.slice none 0 0,.slice none 0 0,.slice none 0 0,.slice none 0 0,.int .i64 0,.int .i64 0,.int .i64 0,.slice none 0 0,.slice none 0 0] 35)).alloc (.cells #[.int .i64 0,.int .i64 0,.int .i64 0,.int .i64 0,.int .i64 0,.int .i64 0,.int .i64 0,.int .i64 0,.string ⟨#[]⟩,.slice none 0 0] 58)).setRow w6.heap.size c1) (w6.heap.size + 1) 10=true:=(qbk ((setRow_other _ _ _ _ (by omega)).trans (heap_alloc2_new w6 _ _)) rfl))
 have HGD:=hI (fun (h:okp=true)=>qvv (h ▸ HRP.out) HFC.out HO9.out HPY.out HCK.out)
 have hb67:Below w6.heap.size w6 (((w6.alloc (.cells #[.int .i64 0,.int .i64 0,.int .i64 0,.int .i64 0,.int .i64 0,.int .i64 0,.int .i64 0,.slice none 0 0,.slice none 0 0,.slice none 0 0,.slice none 0 0,.slice none 0 0,.slice none 0 0,.int .i64 0,.int .i64 0,.int .i64 0,.slice none 0 0,.slice none 0 0] 35)).alloc (.cells #[.int .i64 0,.int .i64 0,.int .i64 0,.int .i64 0,.int .i64 0,.int .i64 0,.int .i64 0,.int .i64 0,.string ⟨#[]⟩,.slice none 0 0] 58)).setRow w6.heap.size c1 |>.setRow (w6.heap.size + 1) cp):=qbn (qbn (qab (bel1 w6 _) _) (Nat.le_refl _) _) (by omega) _
 have HS7:=hI (HS6.out.next hb67)
 have hb6w:=HS6.out.x.b
 have hs6w:=hb6w.size
 have HA7:Hid (BoxG w w6.heap.size c1 35 _):=hI ((BoxG.rowOn (g:=w6.heap.size) (c:=c1) (⟨qab (qab hb6w (.cells #[.int .i64 0,.int .i64 0,.int .i64 0,.int .i64 0,.int .i64 0,.int .i64 0,.int .i64 0,.slice none 0 0,.slice none 0 0,.slice none 0 0,.slice none 0 0,.slice none 0 0,.slice none 0 0,.int .i64 0,.int .i64 0,.int .i64 0,.slice none 0 0,.slice none 0 0] 35)) (.cells #[.int .i64 0,.int .i64 0,.int .i64 0,.int .i64 0,.int .i64 0,.int .i64 0,.int .i64 0,.int .i64 0,.string ⟨#[]⟩,.slice none 0 0] 58),qcl (heap_alloc_new w6 _)⟩:BoxG w w6.heap.size #[.int .i64 0,.int .i64 0,.int .i64 0,.int .i64 0,.int .i64 0,.int .i64 0,.int .i64 0,.slice none 0 0,.slice none 0 0,.slice none 0 0,.slice none 0 0,.slice none 0 0,.slice none 0 0,.int .i64 0,.int .i64 0,.int .i64 0,.slice none 0 0,.slice none 0 0] 35 _) hs6w).rowTo (g2:=w6.heap.size + 1) (c:=cp) (by omega) (by omega))
 have HM7:Hid (BoxG w (w6.heap.size + 1) cp 58 _):=hI ((BoxG.rowTo (g:=w6.heap.size + 1) (g2:=w6.heap.size) (c:=c1) (⟨qab (qab hb6w (.cells #[.int .i64 0,.int .i64 0,.int .i64 0,.int .i64 0,.int .i64 0,.int .i64 0,.int .i64 0,.slice none 0 0,.slice none 0 0,.slice none 0 0,.slice none 0 0,.slice none 0 0,.slice none 0 0,.int .i64 0,.int .i64 0,.int .i64 0,.slice none 0 0,.slice none 0 0] 35)) (.cells #[.int .i64 0,.int .i64 0,.int .i64 0,.int .i64 0,.int .i64 0,.int .i64 0,.int .i64 0,.int .i64 0,.string ⟨#[]⟩,.slice none 0 0] 58),heap_alloc2_new w6 _ _⟩:BoxG w (w6.heap.size + 1) #[.int .i64 0,.int .i64 0,.int .i64 0,.int .i64 0,.int .i64 0,.int .i64 0,.int .i64 0,.int .i64 0,.string ⟨#[]⟩,.slice none 0 0] 58 _) (by omega) hs6w).rowOn (c:=cp) (by omega))
 have HB67:=hI hb67
 have hla:n + 1 + 1 < w6.heap.size:=by rw [←hnw];exact HS6.out.l.lt
 have hqa:q + 1≤w6.heap.size:=HQ6.out
 obtain ⟨a,ha⟩:∃ a,w6.heap.size=a:=⟨_,rfl⟩
 rw [ha] at HA7 HM7 hla hqa hs6w ⊢
 rw [ha] at HS7 HB67
 have HSZ6:=hI ha
 generalize (((w6.alloc (.cells #[.int .i64 0,.int .i64 0,.int .i64 0,.int .i64 0,.int .i64 0,.int .i64 0,.int .i64 0,.slice none 0 0,.slice none 0 0,.slice none 0 0,.slice none 0 0,.slice none 0 0,.slice none 0 0,.int .i64 0,.int .i64 0,.int .i64 0,.slice none 0 0,.slice none 0 0] 35)).alloc (.cells #[.int .i64 0,.int .i64 0,.int .i64 0,.int .i64 0,.int .i64 0,.int .i64 0,.int .i64 0,.int .i64 0,.string ⟨#[]⟩,.slice none 0 0] 58)).setRow a c1).setRow (a + 1) cp=w7 at HS7 HA7 HM7 HB67 ⊢
 clear ha k1 k2 hb67 hb6w HS6 HS5 HQ5 HS4 HQ4 HS3 HQ3
 cases okp
 ·go_wp2
  have z1:=HS7.out.o.row
  have z2:=HS7.out.l.row
  rw [hnw] at z1 z2
  exact ⟨_,qdu rfl rfl rfl z1 hsz z2,HRE.out _ HS7.out⟩
 go_upto_region 9 with fail
 obtain ⟨⟨hcu,hfu⟩,hpz,hpA,hpc,hpp⟩:=HGD.out rfl
 have HCU:=hI hcu
 have HFU:=hI hfu
 have HPZ:Hid (p.z=#[]∧p.A=none∧p.pay.size≤1000):=⟨hpz,hpA,hpp⟩
 have HRE0:Hid (∀ W,RdE W p):=fun W=>⟨by rw [hpA,hpz];exact fun h=>absurd h (by decide),by rw [hpz,hpc];exact Nat.le_refl _,by rw [hpz];exact Nat.zero_le _,hpp⟩
 clear HGD hcu hfu hpz hpA hpc hpp
 obtain ⟨ca,hca⟩:∃ x,x=(encK (ansK t.self p)).toArray:=⟨_,rfl⟩
 have HAN:Hid (∀ W,Calls Tryz.prog 135 #[.int .i64 t.self,.agg cp] W fun x w'=>x=.returned (.agg ca)∧Below W.heap.size W w'):=fun W=>by rw [hca,HCP.out];exact qtj t.self p W
 have HAC:Hid (∀ W,Calls Tryz.prog 134 #[.agg cp,.agg ca] W fun x w'=>(∃ (u:EN) (cq:Array Value) (ok:Bool),x=.returned (.tuple #[.agg cq,.bool ok])∧cq=(encE u).toArray∧ok=qqi p (ansK t.self p)∧(ok=false→u=p)∧(ok=true→u={ p with A:=u.A,c:=u.c,z:=p.z.push (ansK t.self p) }∧RdK encK 6 w'.heap.size w' u.A u.z∧u.z.size≤u.c∧FreshA W.heap.size u.A))∧Below W.heap.size W w'):=fun W=>by
  rw [hca,HCP.out]
  exact (ack_any p (ansK t.self p) W (HRE0.out W) (HRE0.out W).cz).mono fun x w' ⟨⟨u,h1,h2,h3⟩,h4⟩=>⟨⟨u,_,_,h1,rfl,rfl,h2,h3⟩,h4⟩
 clear hca
 have c2:=HS7.out.x.at_ 2 HQ2.out
 rw [hnw] at c2
 have y1:=HM7.out.box hp1
 have y2:=HM7.out.rowAt
 have y3:qaq w7.drew (a + 1) 10=true:=y1
 have y4:rowAt w7.drew (a + 1)=cp:=y2
 go_cut [7] from 59 to 67 (fun v7 wx=>∃ (u:EN) (cq:Array Value) (oka:Bool),v7=.bool oka∧RgC t w w6 cs c1 a p u cq oka wx)
 case first =>
  refine Go.wp_region_noPanic ?_
  go_region_law (first
   | (go_simp;go_at_call 135;refine (HAN.out _).mono ?_;rintro _ w8 ⟨rfl,hb⟩;have hb8:Below w7.heap.size w7 w8:=qaa (Below.refl _ w7).drew hb;have HS8:=hI (HS7.out.next hb8);have HA8:=hI (HA7.out.next hb8);have HM8:=hI (HM7.out.next hb8);have HB68:=hI (belA HB67.out hb8 HA7.out.lt);clear hb hb8 c2 y1 y2 y3 y4;have c2:=HS8.out.x.at_ 2 HQ2.out;rw [hnw] at c2;have y1:=HM8.out.box hp1;have y2:=HM8.out.rowAt)
   | (go_simp;go_at_call 134;refine (HAC.out _).mono ?_;rintro _ w9 ⟨⟨u,cq,oka,rfl,hcq,hoka,hu0,hu1⟩,hb⟩;have HS9:=hI (HS8.out.next hb);have HA9:=hI (HA8.out.next hb);have HM9:=hI (HM8.out.next hb);have HB69:=hI (belA HB68.out hb HA8.out.lt);have HQQ:=hI hcq;have HOKA:=hI hoka;have HU0:=hI hu0;have HU1:=hI hu1;have hq1:cq.size=10:=(by rw [hcq];rfl);have hq2:qcf cq=true:=(by rw [hcq];exact qgb _);have HAL:Hid (a + 1 < w8.heap.size):=HM8.out.lt;clear hb hcq hoka hu0 hu1 c2 y1 y2;have y1:=HM9.out.box hp1;have y2:=HM9.out.rowAt))
  all_goals
   refine Go.NoPanic.normal ?_
   go_wp2
   go_meet
   exact ⟨u,cq,oka,rfl,rgC_of HS9.out HA9.out HM9.out HB69.out HQQ.out HOKA.out HU0.out HU1.out HAL.out HRE0.out HPZ.out (by omega)⟩
 case rest =>
  obtain ⟨u,cq,oka,rfl,hrg⟩:=hcut
  have HRG:=hI hrg
  clear hrg c2 y1 y2 y3 y4 HAN HAC HS7 HA7 HM7 HB67
  have HRU:Hid (∀ W,RgC t w w6 cs c1 a p u cq oka W→RdP W u1):=fun W hW=>HSP.out W (HRD.out.below hW.s.x.b) (fun j h1 h2=>hW.b6.block j (by rw [←HSZ6.out];exact h2)) (by rw [HSZ6.out];exact Nat.le_of_lt hW.ba.lt)
  have HPU:Hid (∀ W,RgC t w w6 cs c1 a p u cq oka W→Calls Tryz.prog 136 #[.agg c1,.agg cq] W fun x w'=>(∃ (y:RW EN) (c2:Array Value),x=.returned (.tuple #[.agg c2,.int .i64 (putK u1 u)])∧c2=(encP { u1 with e:=y }).toArray∧(putK u1 u=0→y.z=putD u1.e.z u∧RdK encE 10 w'.heap.size w' y.A y.z∧FreshA W.heap.size y.A))∧Below W.heap.size W w'):=fun W hW=>by
   rw [HC1.out,hW.q]
   exact (qsj u1 u W (HRU.out W hW) hW.ru HFU.out).mono fun x w' ⟨⟨y,h1,_,h2⟩,h3⟩=>⟨⟨y,_,h1,rfl,h2⟩,h3⟩
  obtain ⟨K,hK⟩:∃ K,putK u1 u=K:=⟨_,rfl⟩
  rw [hK] at HPU
  have HKK:=hI hK
  clear hK
  have hq1:cq.size=10:=by rw [HRG.out.q];rfl
  have x1:=HRG.out.ba.box hsz1
  have x2:=HRG.out.ba.rowAt
  have y1:=HRG.out.bm.box hq1
  have y2:=HRG.out.bm.rowAt
  go_upto_region 11 with (go_at_call 136;refine (HPU.out _ HRG.out).mono ?_;rintro _ w12 ⟨⟨y,c2,rfl,hc2,hy⟩,hb⟩;have HRH:=hI (HRG.out.next hb);have HLT:=hI HRG.out.bm.lt;obtain ⟨hsz2,hone2⟩:=rowP hc2;have HC2:=hI hc2;have HY:=hI hy;clear hb hc2 hy x1 x2 y1 y2;have x1:=HRH.out.ba.box hsz1)
  have HS13:=hI (HRH.out.s.rowTo (g:=a) (by omega) c2)
  have HA13:=hI (HRH.out.ba.rowOn (c:=c2) (by omega))
  have HM13:=hI (HRH.out.bm.rowTo (g2:=a) (c:=c2) (by omega) (by omega))
  have HB13:=hI (qbn HRH.out.b6 (Nat.le_refl a) c2)
  obtain ⟨w13,hw13⟩:∃ W,W=w12.setRow a c2:=⟨_,rfl⟩
  have HW:=hI hw13
  rw [←hw13] at HS13 HA13 HM13 HB13 ⊢
  clear hw13 x1
  have HLV:Hid (∀ W,StW w cs cs none 0 0 W→BoxG w a c2 35 W→CallsD Tryz.prog 133 #[.pointer (some ⟨n + 1 + 1,0,none⟩),.pointer (some ⟨a,0,none⟩),.pointer (some ⟨n + 1,0,none⟩)] .returning W fun e u' w'=>u'=.returning∧(e=.returned (.tuple #[])∧w'=W)):=fun W h1 h2=>by
   have z1:=h1.o.row
   have z2:=h1.l.row
   rw [hnw] at z1 z2
   exact (qvw (n + 1 + 1) a (n + 1) none 0 0 c2 cs _ _ _ .returning W z2 h2.row z1 hsz2 hone2 hsz).mono fun e u' w' ⟨h3,h4,h5⟩=>⟨h3,h4,h5⟩
  cases oka
  ·go_wp2
   refine leaves_cons (f:=133) (args:=#[.pointer (some ⟨n + 1 + 1,0,none⟩),.pointer (some ⟨a,0,none⟩),.pointer (some ⟨n + 1,0,none⟩)]) (by simp) (by simp [go_sem]) ?_
   refine (HLV.out _ HS13.out HA13.out).mono ?_
   rintro _ u' w14 ⟨rfl,rfl,rfl⟩
   have z1:=HS13.out.o.row
   have z2:=HS13.out.l.row
   rw [hnw] at z1 z2
   exact ⟨_,qdu rfl rfl rfl z1 hsz z2,HRE.out _ HS13.out⟩
  by_cases hK0:K=0
  rotate_left
  ·have e4:(K != 0)=true:=bne_iff_ne.2 hK0
   go_wp2
   refine leaves_cons (f:=133) (args:=#[.pointer (some ⟨n + 1 + 1,0,none⟩),.pointer (some ⟨a,0,none⟩),.pointer (some ⟨n + 1,0,none⟩)]) (by simp) (by simp [go_sem]) ?_
   refine (HLV.out _ HS13.out HA13.out).mono ?_
   rintro _ u' w14 ⟨rfl,rfl,rfl⟩
   have z1:=HS13.out.o.row
   have z2:=HS13.out.l.row
   rw [hnw] at z1 z2
   exact ⟨_,qdu rfl rfl rfl z1 hsz z2,HRE.out _ HS13.out⟩
  subst hK0
  obtain ⟨hya,hyb,hyc⟩:=HY.out rfl
  have HYF:Hid (FreshA (a + 1 + 1) y.A):=FreshA.mono hyc HLT.out
  have HYA:=hI hya
  have HYB:=hI hyb
  clear HY hya hyb hyc
  have HSE:Hid (∀ W,Below w13.heap.size w13 W→∀ W',(∀ j,q + 1≤j→j < W.heap.size→W'.heap[j]?=W.heap[j]?)→W'.heap.size=W.heap.size→SepR t w.heap.size W' { u1 with e:=y }):=fun W hb W' h1 h2=>by
   have hs12:w13.heap.size=w12.heap.size:=by rw [HW.out];simp
   have hal:=HA13.out.lt
   have hbs:=hb.size
   refine start_sep (q:=q + 1) (w6:=w6) (w12:=w12) HSP.out HSZ6.out (fun j j1 j2=>(h1 j j1 (by omega)).trans ((hb.block j (by omega)).trans (HB13.out.block j j2))) (fun j j1 j2=>(h1 j (by omega) (by omega)).trans ((hb.block j (by omega)).trans ?_)) (by omega) (by omega) (by omega) (by omega) HYA.out HYB.out HRH.out.ru HRH.out.fu HYF.out
   rw [HW.out]
   exact setRow_other _ _ j _ (by omega)
  obtain ⟨hcs1,hfs1⟩:=qps (y:=y) HFU.out HKK.out HYA.out HRH.out.ru.sz HRH.out.ru.pz
  have HALL:Hid (∀ W,Below w13.heap.size w13 W→Calls Tryz.prog 64 #[.agg c2,.agg (msgC (qpq id B u))] W fun x w'=>(∃ o:RW OU,x=.returned (.slice o.A o.z.size o.c)∧o.z=(allO { u1 with e:=y } (qpq id B u)).toArray∧RdN qbw 15 w' o∧FreshA W.heap.size o.A)∧Below W.heap.size W w'):=fun W hb=>by
   rw [HC2.out]
   refine (qjr { u1 with e:=y } (qpq id B u) W ((HSE.out W hb W (fun _ _ _=>rfl) rfl).rd (HRD.out.below (qaa HS13.out.x.b hb))) hfs1).mono fun x w' ⟨⟨v,he,h1,_⟩,hb2⟩=>?_
   obtain ⟨o,rfl,hz,hr,hf⟩:=qig (h1 hcs1)
   exact ⟨⟨o,he,hz,hr,hf⟩,hb2⟩
  simp only [qpq,msgC] at HALL
  clear hcs1 hfs1 HLV
  have HEU:Hid (cq[2]?=some (.int .i64 u.qu)∧cq[8]?=some (.string u.pay)):=by show _∧_;rw [HRG.out.q];exact ⟨rfl,rfl⟩
  have c0:=HM13.out.at_ 2 HEU.out.1
  have c1':=HM13.out.at_ 8 HEU.out.2
  have x1:=HS13.out.o.box hsz
  have x2:=HS13.out.o.rowAt
  have y1:=HA13.out.box hsz2
  have y2:=HA13.out.rowAt
  rw [hnw] at x1 x2
  clear c0 c1' x1 x2 y1 y2
  have KS:Hid (∀ W,StW w cs cs none 0 0 W∨(∃ A k c,StW w cs cs A k c W)→BoxG w a c2 35 W→BoxG w (a + 1) cq 58 W→qaq W (n + 1) 18=true∧rowAt W (n + 1)=cs∧qaq W a 18=true∧rowAt W a=c2∧W.cell? ⟨a + 1,2,none⟩=some (.int .i64 u.qu)∧W.cell? ⟨a + 1,8,none⟩=some (.string u.pay)):=fun W h1 h2 h3=>by
   have h4:BoxG w (w.heap.size + 1) cs 35 W:=by
    rcases h1 with h1 | ⟨_,_,_,h1⟩ <;> exact h1.o
   rw [hnw] at h4
   exact ⟨h4.box hsz,h4.rowAt,h2.box hsz2,h2.rowAt,h3.at_ 2 HEU.out.1,h3.at_ 8 HEU.out.2⟩
  go_upto_region 12 with fail
  refine Go.wp_region_noPanic ?_
  refine qcy (S:=fun W=>qaq W (n + 1) 18=true∧rowAt W (n + 1)=cs∧qaq W a 18=true∧rowAt W a=c2∧W.cell? ⟨a + 1,2,none⟩=some (.int .i64 u.qu)∧W.cell? ⟨a + 1,8,none⟩=some (.string u.pay)) (by kernel_rfl) ?_
  have hb1:Below w13.heap.size w13 w13.drew:=(Below.refl _ _).drew
  have hS:=KS.out _ (.inl (HS13.out.next hb1)) (HA13.out.next hb1) (HM13.out.next hb1)
  refine qih (some 80) (i:=0) (v:=.agg cs) rfl rfl (by kernel_rfl) (by kernel_rfl) (by kernel_rfl) (fun _ _ _ h=>h) (Or.inl ⟨by rfl,fun W hW=>qey rfl hW.1 hW.2.1⟩) hS ?_
  simp only [Act.put,sA,s0,s1]
  refine qih (some 81) (i:=1) (v:=.agg c2) rfl rfl (by kernel_rfl) (by kernel_rfl) (by kernel_rfl) (fun _ _ _ h=>h) (Or.inl ⟨by rfl,fun W hW=>qey rfl hW.2.2.1 hW.2.2.2.1⟩) hS ?_
  simp only [Act.put,sA,s0,s1]
  refine tkF 82 2 rfl rfl hS ?_
  simp only [Act.put,sA,s0,s1]
  refine tkF 83 3 rfl rfl hS ?_
  simp only [Act.put,sA,s0,s1]
  refine tkF 84 4 rfl rfl hS ?_
  simp only [Act.put,sA,s0,s1]
  refine tkF 85 5 rfl rfl hS ?_
  simp only [Act.put,sA,s0,s1]
  refine tkF 86 6 rfl rfl hS ?_
  simp only [Act.put,sA,s0,s1]
  refine tkF 87 7 rfl rfl hS ?_
  simp only [Act.put,sA,s0,s1]
  refine tkF 88 8 rfl rfl hS ?_
  simp only [Act.put,sA,s0,s1]
  refine rdy1 9 rfl (fun K hK=>?_)
  go_simp
  refine (HALL.out _ hb1).mono ?_
  rintro _ w14 ⟨⟨o,rfl,hoz,hor,hof⟩,hb⟩
  have hb2:Below w13.heap.size w13 w14:=qaa hb1 hb
  have HB14:=hI hb2
  have HS14:=hI (HS13.out.next hb2)
  have HA14:=hI (HA13.out.next hb2)
  have HM14:=hI (HM13.out.next hb2)
  have HOZ:=hI hoz
  have HOR:=hI hor
  have HOF:Hid (FreshA w13.heap.size o.A):=hof
  refine hK.out _ _ (KS.out _ (.inl HS14.out) HA14.out HM14.out) (fun _=>?_)
  clear hK K hS hb hb1 hb2 hoz hor hof
  have x1:=HS14.out.o.box hsz
  have x5:=HS14.out.l.at_ 0 (v:=.slice none 0 0) rfl
  have x6:=HS14.out.l.froz 0
  have g1:=HS14.out.o.row
  rw [hnw] at x1 x5 x6 g1
  have g2:=qbz w14 (n + 1) _ _ cs g1 rfl hone
  have HR1:=hI (HS14.out.l.rowTo (g2:=w.heap.size + 1) (c:=cs) (by omega) (by omega))
  have HT1:Hid (StW w cs cs none 0 0 (w14.setRow (w.heap.size + 1) cs)):=hI ⟨HS14.out.x.rowTo (by omega) (by omega),HS14.out.o.rowOn (by omega),HR1.out⟩
  refine rdy1 10 rfl (fun K hK=>?_)
  go_simp
  refine hK.out _ _ (KS.out _ (.inl (hnw ▸ HT1.out)) ((hnw ▸ HA14.out.rowTo (g2:=w.heap.size + 1) (by omega) (by omega):BoxG w a c2 35 (w14.setRow (n + 1) cs))) ((hnw ▸ HM14.out.rowTo (g2:=w.heap.size + 1) (by omega) (by omega):BoxG w (a + 1) cq 58 (w14.setRow (n + 1) cs)))) (fun _=>?_)
  clear hK K x1 x5 x6 g1 g2
  have z5:=HR1.out.at_ 0 (v:=.slice none 0 0) rfl
  have z6:=HR1.out.froz 0
  rw [hnw] at z5 z6
  refine rdyL 11 rfl (fun K hK=>?_)
  go_simp
  refine hK.out _ _ ?_
  clear hK K
  refine qca (by kernel_rfl) ?_ _
  refine Go.NoPanic.normal ?_
  have hl13:=HS13.out.l.lt
  have HT2:Hid (StW w cs cs o.A o.z.size o.c ((w14.setRow (w.heap.size + 1) cs).setCell ⟨w.heap.size + 1 + 1,0,none⟩ (.slice o.A o.z.size o.c))):=hI ⟨HT1.out.x.far (by omega) (by omega) _ _,HT1.out.o.far (by omega) (by omega) _ _,by have:=HT1.out.l.set (by omega) 0 (.slice o.A o.z.size o.c);simpa using this⟩
  have HA15:=hI ((HA14.out.rowTo (g2:=w.heap.size + 1) (c:=cs) (by omega) (by omega)).far (g2:=w.heap.size + 1 + 1) (by omega) (by omega) 0 (.slice o.A o.z.size o.c))
  have HK15:Hid ((∀ j,q + 1≤j→((w14.setRow (w.heap.size + 1) cs).setCell ⟨w.heap.size + 1 + 1,0,none⟩ (.slice o.A o.z.size o.c)).heap[j]?=w14.heap[j]?)∧((w14.setRow (w.heap.size + 1) cs).setCell ⟨w.heap.size + 1 + 1,0,none⟩ (.slice o.A o.z.size o.c)).heap.size=w14.heap.size∧RdN qbw 15 ((w14.setRow (w.heap.size + 1) cs).setCell ⟨w.heap.size + 1 + 1,0,none⟩ (.slice o.A o.z.size o.c)) o):=by
   refine ⟨fun j hj=>(Below.heap_setCell _ _ _ _ (show j≠w.heap.size + 1 + 1 by omega)).trans (setRow_other _ _ j _ (by omega)),by simp,?_⟩
   refine (HOR.out.farG (g:=w.heap.size + 1) (W:=w14.setRow (w.heap.size + 1) cs) (by simp) (fun _ x hx=>by have:=HOF.out x hx;omega) (fun b hb=>setRow_other _ _ b _ hb)).farG (g:=w.heap.size + 1 + 1) (by simp) (fun _ x hx=>by have:=HOF.out x hx;omega) (fun b hb=>Below.heap_setCell _ _ _ _ hb)
  rw [hnw] at HT2 HA15 HK15
  obtain ⟨w15,hw15⟩:∃ W,W=(w14.setRow (n + 1) cs).setCell ⟨n + 1 + 1,0,none⟩ (.slice o.A o.z.size o.c):=⟨_,rfl⟩
  rw [←hw15] at HT2 HA15 HK15 ⊢
  clear hw15 z5 z6
  go_wp2
  refine leaves_cons (f:=133) (args:=#[.pointer (some ⟨n + 1 + 1,0,none⟩),.pointer (some ⟨a,0,none⟩),.pointer (some ⟨n + 1,0,none⟩)]) (by simp) (by simp [go_sem]) ?_
  have z1:=HT2.out.o.row
  have z2:=HT2.out.l.row
  rw [hnw] at z1 z2
  refine (qvw (n + 1 + 1) a (n + 1) o.A o.z.size o.c c2 cs _ _ _ .returning w15 z2 HA15.out.row z1 hsz2 hone2 hsz).mono ?_
  rintro _ u' w16 ⟨rfl,rfl,hw16⟩
  by_cases h0:o.z.size=0
  ·rw [if_pos h0] at hw16
   subst hw16
   exact ⟨_,qdu rfl rfl rfl z1 hsz z2,⟨⟨t,o,by rw [HCS.out],Or.inl ⟨rfl,by rw [Array.eq_empty_of_size_eq_zero h0]⟩,SepR.self _ _ _,HK15.out.2.2⟩,HT2.out.x.b⟩⟩
  ·rw [if_neg h0] at hw16
   subst hw16
   refine ⟨_,qdu rfl rfl rfl (setRow_heap _ _ _ _ _ _ z1) hsz2 ((setRow_other _ _ _ _ (by omega)).trans z2),⟨⟨{ u1 with e:=y },o,by rw [HC2.out],Or.inr ⟨e,B,u1,p,u,⟨HFI.out,HO.out,HXX.out,HBB.out.symm⟩,HRP.out,HRG.out.ok.symm,HRG.out.u1 rfl,HKK.out,rfl,HYA.out,by rw [HOZ.out];rfl⟩,?_,?_⟩,qbn HT2.out.x.b (by omega) _⟩⟩
   ·exact HSE.out w14 HB14.out _ (fun j j1 _=>(setRow_other _ _ j _ (by omega)).trans (HK15.out.1 j j1)) (by simp [HK15.out.2.1])
   ·exact HK15.out.2.2.farG (g:=n + 1) (by simp) (fun _ x hx=>by have:=HOF.out x hx;omega) (fun b hb=>setRow_other _ _ b _ hb)
end Go.Proofs.YtlkmagmdhopcjaaGreat
namespace Go.Proofs.YtlkmagmdhopcjaaGreat
open Go.RowKit Go.Sort Go.Lib
theorem RprR.same {t:RP} {e:EN} {B:Int} {u:RP} {p:EN} (h:RprR t e B u p true):u={ t with clock:=u.clock,o:=u.o,e:=u.e }∧t.clock≤u.clock∧u.o.z.size≤t.o.z.size + 1:=by
 rcases h with ⟨h1,_⟩ | ⟨_,r1,t1,h2,_,_,h5,_⟩
 ·cases h1
 ·rcases h2 with ⟨_,rfl,_⟩ | ⟨_,h2⟩
  ·rw [h5]
   exact ⟨rfl,Int.le_refl _,Nat.le_succ _⟩
  ·obtain ⟨a1,a2,a3⟩:=h2.2.2 rfl
   rw [a2] at h5
   rw [h5]
   refine ⟨rfl,by show t.clock≤t1;omega,?_⟩
   show r1.o.z.size≤_
   rw [a3,Array.size_push]
   exact Nat.le_refl _
theorem StP.good {t:RP} {id:Int} {s:RP} {l:List OU} (h:StP t id s l) (hc:chkR t=true) (hf:FewC t) (ho:t.o.z.size≤999):(chkR s=true∧FewC s)∧s.o.z.size≤t.o.z.size + 1∧l.length≤9∧s={ t with clock:=s.clock,o:=s.o,e:=s.e }∧t.clock≤s.clock:=by
 rcases h with ⟨rfl,rfl⟩ | ⟨e,B,u,p,q,h1,h2,_,h4,h5,h6,h7,h8⟩
 ·exact ⟨⟨hc,hf⟩,Nat.le_succ _,Nat.zero_le _,rfl,Int.le_refl _⟩
 ·obtain ⟨i,hi,hie,_⟩:=qla h1.find
  have hp:e.pay.size≤1000:=by rw [←hie];exact (hf.ee i hi).2
  obtain ⟨⟨a1,a2⟩,a3,_,_,a6⟩:=qvv h2 hf ho hp hc
  obtain ⟨b1,b2,b3⟩:=h2.same
  have hq1:q.z.size≤1000:=by rw [h4];show (p.z.push _).size≤1000;rw [a3,Array.size_push];decide
  have hq2:q.pay.size≤1000:=by rw [h4];exact a6
  have hg:=qps (y:=s.e) a2 h5 h7 hq1 hq2
  rw [←h6] at hg
  refine ⟨hg,by rw [h6];exact b3,?_,?_,by rw [h6];exact b2⟩
  ·rw [h8]
   exact qis s (qdk hg.1).1.2 _
  ·rw [h6,b1]
theorem qel {r2:RP} {d:Array Int} (hc:chkR r2=true) (hf:FewC r2) (ho:r2.o.z.size≤900):∀ (k:Nat),k≤99→∀ (t:RP) (os:List OU),qgj StP r2 d k t os→(chkR t=true∧FewC t)∧t.o.z.size≤r2.o.z.size + k∧os.length≤9 * k∧t={ r2 with clock:=t.clock,o:=t.o,e:=t.e }∧r2.clock≤t.clock
 | 0,_,t,os,h=>by
   obtain ⟨rfl,rfl⟩:=h
   exact ⟨⟨hc,hf⟩,Nat.le_refl _,Nat.le_refl _,rfl,Int.le_refl _⟩
 | k + 1,hk,s,os,h=>by
   obtain ⟨t,o1,o2,h1,h2,rfl⟩:=h
   obtain ⟨⟨a1,a2⟩,a3,a4,a5,a6⟩:=qel hc hf ho k (by omega) t o1 h1
   obtain ⟨b1,b2,b3,b4,b5⟩:=h2.good a1 a2 (by omega)
   refine ⟨b1,by omega,by rw [List.length_append];omega,?_,by omega⟩
   rw [b4,a5]
theorem qyf (d:Array (Int×Int)) (f:Int):(qsh d f).size≤d.size:=by
 unfold qsh
 have:=List.length_filter_le (fun a:Int×Int=>!decide (a.1≤f)) d.toList
 rw [List.size_toArray]
 exact this
theorem qlb {r r1 s2:RP} (hf:FewM r) (hc:chkR r=true) (h1:RefR r r1) (h2:AgedR r1 s2):(chkR s2=true∧FewC s2)∧s2.o.z.size≤150∧(dueR s2).size≤40:=by
 have c1:=h1.chk hc hf
 have c2:=h2.chk c1
 have f2:=h2.few (h1.few hc hf)
 have eo:s2.o=r1.o:=by
  rcases h2 with ⟨_,rfl⟩ | ⟨_,h2,_⟩
  ·rfl
  ·rw [h2]
 refine ⟨⟨c2,f2⟩,?_,Nat.le_trans (qql s2) (qcn.1 (qkk c2)).1⟩
 rw [eo,h1.o]
 exact Nat.le_trans (qyf _ _) hf.o
theorem qyg (r:RP) (w:World) (h:RdP w r) (hf:FewM r):Calls Tryz.prog 16 #[.agg (encP r).toArray] w fun e w'=>TickO StP r w e w' :=
 qlx StP r w h hf
  (fun r1 s2 hc h1 h2 k t os hk hs W hW=>by
    obtain ⟨⟨a1,a2⟩,a3,a4⟩:=qlb hf hc h1 h2
    obtain ⟨⟨b1,b2⟩,b3,_⟩:=qel a1 a2 (by omega) k (by omega) t os hs
    exact qye t _ W hW b2 (by omega) b1)
  (fun r1 s2 hc h1 h2 k t os hk hs=>by
    obtain ⟨⟨a1,a2⟩,a3,a4⟩:=qlb hf hc h1 h2
    obtain ⟨⟨b1,b2⟩,_,b4,_⟩:=qel a1 a2 (by omega) k (by omega) t os hs
    exact ⟨b1,b2,b4⟩)
end Go.Proofs.YtlkmagmdhopcjaaGreat
namespace Go.Proofs.YtlkmagmdhopcjaaGreat
open Go.RowKit Go.Sort Go.Lib
theorem qpz {m:PM} (hk:1≤m.k∧m.k≤10) (hf:1≤m.fr∧m.fr≤9) (hs:qbu (qbs m) m=true) (hm:mayB m=true):chkM m=0:=by
 unfold chkM
 rw [if_neg (by omega),if_pos (by rw [decide_eq_true hf,hs,hm];rfl)]
theorem chk_resc {s id B:Int} {q:EN} (hs:1≤s∧s≤9) (hi:okId id=true) (hb:qbr B=true) (hq:1≤q.qu∧q.qu≤511∧q.pay.size≤300):chkM { qpq id B q with fr:=s }=0:=by
 refine qpz (show (1:Int)≤6∧(6:Int)≤10 by decide) hs ?_ ?_
 ·unfold qbu qbs qpq
  simp
 ·show mayB { qpq id B q with fr:=s }=true
  unfold mayB qpq
  simp only [hi,hb,carB,decide_eq_true hq]
  rfl
theorem en_told {e:EN} (h:qcg e=true):qsz e:=by
 unfold qcg at h
 simp only [Bool.and_eq_true,decide_eq_true_eq] at h
 exact h.1.1.2
theorem chk_ofM {s:Int} {e:EN} (hs:1≤s∧s≤9) (he:qcg e=true):chkM { ofM e with fr:=s }=0:=by
 obtain ⟨hh,hn⟩:=qpr he
 have ht:=en_told he
 unfold qnt at hh
 unfold qns at hn
 have hi:okId e.id=true:=decide_eq_true ⟨hh.1,hh.2.1,hh.2.2.1⟩
 have hq:1≤e.qu∧e.qu≤511∧e.pay.size≤300:=⟨hh.2.2.2.2.2.1,hh.2.2.2.2.2.2.1,hh.2.2.2.2.2.2.2⟩
 cases hc:qdx e.ph
 ·have e1:ofM e=⟨9,0,e.id,0,0,0,0,e.qu,e.pay,0,0,none,0,#[],none,0,#[],0⟩:=by unfold ofM;rw [hc];rfl
  rw [e1]
  refine qpz (show (1:Int)≤9∧(9:Int)≤10 by decide) hs ?_ ?_
  ·unfold qbu qbs
   simp
  ·unfold mayB
   simp only [hi,carB,decide_eq_true hq]
   rfl
 ·have h5:e.ph=5∨e.ph=6:=of_decide_eq_true hc
  have htm:qbr e.t=true:=by
   have:0 < e.t:=ht.1.1 (by omega)
   exact decide_eq_true (by omega)
  have e1:ofM e=⟨5,0,e.id,e.t,0,0,0,e.qu,e.pay,0,0,none,0,#[],none,0,#[],0⟩:=by unfold ofM;rw [hc];rfl
  rw [e1]
  refine qpz (show (1:Int)≤5∧(5:Int)≤10 by decide) hs ?_ ?_
  ·unfold qbu qbs
   simp
  ·unfold mayB
   simp only [hi,htm,carB,decide_eq_true hq]
   rfl
def qqa (n self:Int) (x:OU):Prop:=1≤x.t∧x.t≤n∧x.t≠self∧x.m.fr=self∧chkM x.m=0
theorem qmu {r:RP} {m:PM} (h:chkM { m with fr:=r.self }=0) (hn:1≤r.n):∀ x ∈ allO r m,qqa r.n r.self x∧x.m={ m with fr:=r.self }:=by
 intro x hx
 unfold allO qls othK at hx
 simp only [List.mem_map,List.mem_filter,List.mem_range,decide_eq_true_eq] at hx
 obtain ⟨t,⟨⟨i,hi,rfl⟩,ht⟩,rfl⟩:=hx
 exact ⟨⟨by show (1:Int)≤(i:Int) + 1;omega,by show (i:Int) + 1≤r.n;omega,ht,rfl,h⟩,rfl⟩
def GoodP (n self:Int) (x:OU):Prop:=qqa n self x∧x.m.k≠10∧∀ W,RdM W x.m
theorem qvx (W:World) (m:PM) (h1:m.ats=#[]) (h2:m.mks=#[]) (h3:m.pay.size≤1000):RdM W m :=
 ⟨by rw [h1];exact fun h=>absurd h (by decide),by rw [h2];exact fun h=>absurd h (by decide),by rw [h1];exact Nat.zero_le _,by rw [h2];exact Nat.zero_le _,by omega⟩
theorem prB_keeps (e:EN) (b t:Int):(prB e b t).qu=e.qu∧(prB e b t).pay=e.pay:=by
 unfold prB clrE qjn
 split
 ·split <;> exact ⟨rfl,rfl⟩
 ·exact ⟨rfl,rfl⟩
theorem StP.told {t:RP} {id:Int} {s:RP} {l:List OU} (h:StP t id s l) (hc:chkR t=true) (hf:FewC t) (ho:t.o.z.size≤999):∀ x ∈ l,GoodP t.n t.self x:=by
 have hg:=h.good hc hf ho
 rcases h with ⟨_,rfl⟩ | ⟨e,B,u,p,q,h1,h2,_,h4,_,_,_,h8⟩
 ·exact fun x hx=>absurd hx (by simp)
 ·obtain ⟨i,hi,hie,hid⟩:=qla h1.find
  have hck:qcg e=true:=by rw [←hie];exact tab_at (qkk hc) hi
  obtain ⟨hh,_⟩:=qpr hck
  unfold qnt at hh
  have hB:qbr B=true:=by rw [h1.b];exact (qrj h1.ok).1
  have hi':okId id=true:=by rw [←hid];exact decide_eq_true ⟨hh.1,hh.2.1,hh.2.2.1⟩
  have hqq:q.qu=e.qu∧q.pay=e.pay:=by
   rcases h2 with ⟨h9,_⟩ | ⟨_,r1,t1,_,h3,_⟩
   ·cases h9
   ·rw [h4]
    show p.qu=_∧p.pay=_
    rw [h3]
    exact prB_keeps e B t1
  have hq:1≤q.qu∧q.qu≤511∧q.pay.size≤300:=by rw [hqq.1,hqq.2];exact ⟨hh.2.2.2.2.2.1,hh.2.2.2.2.2.2.1,hh.2.2.2.2.2.2.2⟩
  have en:s.n=t.n:=by rw [hg.2.2.2.1]
  have es:s.self=t.self:=by rw [hg.2.2.2.1]
  have hn:=qdk hg.1.1
  rw [h8]
  intro x hx
  obtain ⟨h9,h10⟩:=qmu (chk_resc (by omega) hi' hB hq) (by omega) x hx
  rw [en,es] at h9
  refine ⟨h9,by rw [h10];show (6:Int)≠10;decide,fun W=>?_⟩
  rw [h10]
  exact qvx W _ rfl rfl (by show q.pay.size≤1000;omega)
theorem qmv {r2:RP} {d:Array Int} (hc:chkR r2=true) (hf:FewC r2) (ho:r2.o.z.size≤900):∀ (k:Nat),k≤99→∀ (t:RP) (os:List OU),qgj StP r2 d k t os→∀ x ∈ os,GoodP r2.n r2.self x
 | 0,_,t,os,h=>by
   obtain ⟨_,rfl⟩:=h
   exact fun x hx=>absurd hx (by simp)
 | k + 1,hk,s,os,h=>by
   obtain ⟨t,o1,o2,h1,h2,rfl⟩:=h
   obtain ⟨⟨a1,a2⟩,a3,_,a5,_⟩:=qel hc hf ho k (by omega) t o1 h1
   intro x hx
   rcases List.mem_append.1 hx with h3 | h3
   ·exact qmv hc hf ho k (by omega) t o1 h1 x h3
   ·have:=h2.told a1 a2 (by omega) x h3
    rw [a5] at this
    exact this
theorem qoq {r:RP} (hc:chkR r=true):∀ (k:Nat),k≤r.e.z.size→∀ x ∈ qgy r k,GoodP r.n r.self x
 | 0,_=>fun x hx=>absurd hx (by simp [qgy])
 | k + 1,hk=>by
   intro x hx
   rcases List.mem_append.1 hx with h3 | h3
   ·exact qoq hc k (by omega) x h3
   ·have hck:=tab_at (qkk hc) (show k < r.e.z.size by omega)
    have hn:=qdk hc
    obtain ⟨h9,h10⟩:=qmu (chk_ofM (by omega) hck) (by omega) x h3
    have hh:=(qpr hck).1
    unfold qnt at hh
    refine ⟨h9,?_,fun W=>?_⟩
    ·rw [h10]
     show (if qdx r.e.z[k]!.ph then (5:Int) else 9)≠10
     split <;> decide
    ·rw [h10]
     exact qvx W _ rfl rfl (by show r.e.z[k]!.pay.size≤1000;omega)
end Go.Proofs.YtlkmagmdhopcjaaGreat
namespace Go.Proofs.YtlkmagmdhopcjaaGreat
open Go.RowKit Go.Sort Go.Lib
theorem qmw (hi:Int):∀ (l:List (Int×Int)) (lo:Int),attL hi lo l=qcz hi lo l
 | [],_=>rfl
 | a :: l,lo=>by
   unfold attL qcz
   rw [qmw hi l a.1]
   rfl
theorem told_rise {r:RP} (hc:chkR r=true) (hi:Int) (he:hi=if r.o.z.size≤200 then r.clock else r.o.z[200]!.1 - (1:Int)):(0≤r.floor∧r.floor≤hi∧hi≤1000000)∧attL hi r.floor (qow r).toList=true∧(qow r).size≤200:=by
 obtain ⟨h1,h2,h3,_⟩:=qfb.1 (qen hc)
 unfold qow
 by_cases hs:r.o.z.size≤200
 ·rw [if_pos hs] at he ⊢
  rw [he]
  exact ⟨by omega,by rw [qmw,qbl];exact ⟨h2,h3⟩,hs⟩
 ·rw [if_neg hs] at he ⊢
  have h200:200 < r.o.z.size:=by omega
  have hm:r.o.z[200]! ∈ r.o.z.toList:=qeu _ h200
  have h4:=h3 _ hm
  refine ⟨by omega,?_,by simp;omega⟩
  have hl:(r.o.z.extract 0 200).toList=r.o.z.toList.take 200:=by simp
  rw [hl,qmw,qbl]
  refine ⟨h2.sublist (List.take_sublist _ _),fun x hx=>?_⟩
  have hx2:=h3 x (List.mem_of_mem_take hx)
  have hlt:x.1 < r.o.z[200]!.1:=by
   have hsp:r.o.z.toList=r.o.z.toList.take 200 ++ r.o.z.toList.drop 200:=(List.take_append_drop _ _).symm
   rw [hsp] at h2
   refine (List.pairwise_append.1 h2).2.2 x hx _ ?_
   rw [qvz _ _ h200]
   exact List.mem_cons_self
  exact ⟨hx2.1,by omega,hx2.2.2⟩
theorem chk_prm {r:RP} {m:PM} (h:PrmM r m) (hc:chkR r=true):chkM m=0:=by
 obtain ⟨h1,h2,h3,h4,h5,h6,h7,h8,h9,h10⟩:=h.h
 have hn:=qdk hc
 obtain ⟨a1,a2,a3⟩:=told_rise hc m.hi h.hi
 obtain ⟨_,f1,f2⟩:=qaz.1 (qjq hc)
 have hk:=qhi hc
 have hd:0≤m.dn∧m.dn≤1000000:=by
  rw [h.dn]
  exact f2 _ (qeu _ (by omega))
 have hmk:m.mks=qdd r.k.z:=by rw [h.mks];unfold qee;rw [if_pos hc]
 have hms:m.mks.size=r.k.z.size:=by rw [hmk,qbj]
 refine qpz (by omega) (by omega) ?_ ?_
 ·unfold qbu qbs
  simp [h1,h4,h5,h6,h7,h8,h9,h3]
 ·unfold mayB
  rw [if_pos h1]
  unfold proB
  rw [h10,h.ats,a2,decide_eq_true a3]
  have hmb:mksB m.mks=true:=by
   refine decide_eq_true fun j hj=>?_
   rw [hms] at hj
   rw [hmk,qgi _ hj]
   have:=qdf.1 (qhj hc j hj)
   exact decide_eq_true ⟨this.b0,this.b1⟩
  rw [hmb,decide_eq_true ⟨by omega,by omega,by omega,by omega,by omega,hd.1,hd.2,by omega⟩]
  rfl
end Go.Proofs.YtlkmagmdhopcjaaGreat
namespace Go.Proofs.YtlkmagmdhopcjaaGreat
open Go.RowKit Go.Sort Go.Lib
theorem othK_eq (self:Int):∀ (k:Nat),(othK self k).size=if 1≤self∧self≤(k:Int) then k - 1 else k
 | 0=>by
   rw [if_neg (by omega)]
   rfl
 | k + 1=>by
   have ih:=othK_eq self k
   rw [qlp]
   by_cases h:(k:Int) + 1=self
   ·rw [if_pos h,ih,if_neg (by omega),if_pos (by omega)]
    rfl
   ·rw [if_neg h,Array.size_push,ih]
    by_cases h1:1≤self∧self≤(k:Int)
    ·rw [if_pos h1,if_pos (by omega)]
     omega
    ·rw [if_neg h1,if_neg (by omega)]
def cntP (l:List OU):Nat:=(l.filter fun x=>decide (x.m.k=10)).length
theorem qqb (a b:List OU):cntP (a ++ b)=cntP a + cntP b:=by unfold cntP;rw [List.filter_append,List.length_append]
theorem qrw {l:List OU} (h:∀ x ∈ l,x.m.k≠10):cntP l=0:=by
 unfold cntP
 rw [List.filter_eq_nil_iff.2 fun x hx=>by simpa using h x hx]
 rfl
theorem cntP_all {l:List OU} (h:∀ x ∈ l,x.m.k=10):cntP l=l.length:=by
 unfold cntP
 rw [List.filter_eq_self.2 fun x hx=>by simpa using h x hx]
theorem allO_len (r:RP) (m:PM) (hn:1≤r.self∧r.self≤r.n):((allO r m).length:Int)=r.n - 1:=by
 unfold allO qls
 rw [List.length_map,Array.length_toList,othK_eq,if_pos (by omega)]
 omega
structure TickG (r s:RP) (l:List OU) (W:World):Prop where
 chk:chkR s=true
 few:FewC s
 n:s.n=r.n
 self:s.self=r.self
 clock:r.clock≤s.clock
 good:∀ x ∈ l,qqa r.n r.self x∧RdM W x.m
 cnt:(cntP l:Int)=r.n - 1
theorem TickR.good {r s:RP} {x:RW OU} {W:World} (h:TickR StP r s x W) (hc:chkR r=true) (hf:FewM r):TickG r s x.z.toList W:=by
 rcases h with ⟨h0,_⟩ | ⟨_,r1,s2,pm,os,h1,h2,h3,h4,h5,h6⟩
 ·rw [hc] at h0;cases h0
 ·obtain ⟨⟨a1,a2⟩,a3,a4⟩:=qlb hf hc h1 h2
  obtain ⟨⟨b1,b2⟩,_,_,b5,b6⟩:=qel a1 a2 (by omega) _ (by omega) s os h3
  have ht:=qmv a1 a2 (by omega) _ (by omega) s os h3
  have e1:r1.n=r.n∧r1.self=r.self∧r1.clock=r.clock:=by rw [h1.eq];exact ⟨rfl,rfl,rfl⟩
  have e2:s2.n=r1.n∧s2.self=r1.self∧s2.clock=r1.clock:=by
   rcases h2 with ⟨_,rfl⟩ | ⟨_,h2,_⟩
   ·exact ⟨rfl,rfl,rfl⟩
   ·rw [h2];exact ⟨rfl,rfl,rfl⟩
  have e3:s.n=s2.n∧s.self=s2.self:=by rw [b5];exact ⟨rfl,rfl⟩
  have hn:=qdk b1
  have hpm:({ pm with fr:=s.self }:PM)=pm:=by
   have:=h5.h.2.1
   cases pm
   simp only at this
   rw [this]
  have hz:x.z.toList=os ++ (qgy s s.e.z.size ++ allO s pm):=by rw [h4]
  have hal:=qmu (r:=s) (m:=pm) (by rw [hpm];exact chk_prm h5 b1) (by omega)
  have htl:=qoq b1 s.e.z.size (Nat.le_refl _)
  refine ⟨b1,b2,by rw [e3.1,e2.1,e1.1],by rw [e3.2,e2.2.1,e1.2.1],by rw [←e1.2.2,←e2.2.2];exact b6,fun y hy=>?_,?_⟩
  ·rw [hz] at hy
   rcases List.mem_append.1 hy with h7 | h7
   ·have:=ht y h7
    rw [e2.1,e1.1,e2.2.1,e1.2.1] at this
    exact ⟨this.1,this.2.2 W⟩
   ·rcases List.mem_append.1 h7 with h8 | h8
    ·have:=htl y h8
     rw [e3.1,e2.1,e1.1,e3.2,e2.2.1,e1.2.1] at this
     exact ⟨this.1,this.2.2 W⟩
    ·have:=hal y h8
     rw [e3.1,e2.1,e1.1,e3.2,e2.2.1,e1.2.1] at this
     refine ⟨this.1,?_⟩
     rw [(hal y h8).2,hpm]
     exact h6
  ·rw [hz,qqb,qqb,qrw fun y hy=>(ht y hy).2.1,qrw fun y hy=>(htl y hy).2.1,cntP_all fun y hy=>by rw [(hal y hy).2];exact h5.h.1]
   have:=allO_len s pm (by omega)
   rw [e3.1,e2.1,e1.1] at this
   omega
end Go.Proofs.YtlkmagmdhopcjaaGreat
namespace Go.Proofs.YtlkmagmdhopcjaaGreat
open Go.RowKit Go.Sort Go.Lib
set_option maxRecDepth 100000
attribute [local go_sem ↓] qak qai
attribute [local go_sem] qan qaj qah qap qbb
set_option maxHeartbeats 16000000 in
theorem qyh (r:RP) (x:RW OU) (w:World) (hx:RdN qbw 15 w x) (hs:x.z.size≤100000) (hg:∀ o ∈ x.z.toList,qqa r.n r.self o∧RdM w o.m) :
 Calls Tryz.prog 17 #[.agg (encP r).toArray,.slice x.A x.z.size x.c] w fun e w'=>e=.returned (.bool true)∧Below w.heap.size w w':=by
 have HRX:=hI hx
 have HGO:=hI (fun k (hk:k < x.z.size)=>hg _ (qeu _ hk))
 obtain ⟨cs,hcs⟩:∃ cs,cs=(encP r).toArray:=⟨_,rfl⟩
 obtain ⟨hsz,hone⟩:=rowP hcs
 have HQ0:Hid (cs[0]?=some (.int .i64 r.n)):=by show _=_;rw [hcs];rfl
 have HQ2:Hid (cs[2]?=some (.int .i64 r.self)):=by show _=_;rw [hcs];rfl
 rw [←hcs]
 clear hcs hx hg
 have HX:=hI (BoxG.newB (Below.refl w.heap.size w) cs 35)
 go_enter Tryz.func17,Tryz.ntmps17
 go_upto_region 1 with fail
 generalize w.alloc (.cells cs 35)=w1 at HX ⊢
 go_wp2
 go_loopw [5] (fun i wr=>∃ k:Nat,i=.int .i64 k∧k≤x.z.size∧Hid (Below w1.heap.size w1 wr)) (fun i _=>x.z.size - (intOf i).toNat)
 case atStart=>exact ⟨0,rfl,Nat.zero_le _,hI (Below.refl _ _)⟩
 case round =>
  obtain ⟨k,rfl,hk,HB⟩:=hrel
  have HXr:=hI (HX.out.next HB.out)
  have HBw:=hI HXr.out.b
  by_cases hlt:k < x.z.size
  ·have kz:(k:Int) < (x.z.size:Int):=by omega
   obtain ⟨b,off,hA,hbl,f⟩:=(HRX.out.below HBw.out).rd.at_ (i:=k) hlt
   have HGk:=HGO.out k hlt
   obtain ⟨o,ho⟩:∃ o,x.z[k]! = o:=⟨_,rfl⟩
   rw [ho] at f HGk
   obtain ⟨tt,m⟩:=o
   obtain ⟨⟨g1,g2,g3,g4,g5⟩,g6⟩:=HGk
   have e0:=f 0 (by omega)
   have e1:=f 1 (by omega)
   have e2:=f 2 (by omega)
   have e3:=f 3 (by omega)
   have e4:=f 4 (by omega)
   have e5:=f 5 (by omega)
   have e6:=f 6 (by omega)
   have e7:=f 7 (by omega)
   have e8:=f 8 (by omega)
   have e9:=f 9 (by omega)
   have e10:=f 10 (by omega)
   have e11:=f 11 (by omega)
   have e12:=f 12 (by omega)
   have e13:=f 13 (by omega)
   have e14:=f 14 (by omega)
   simp only [qbw,msgC,List.getElem!_cons_zero,List.getElem!_cons_succ,Nat.add_zero] at e0 e1 e2 e3 e4 e5 e6 e7 e8 e9 e10 e11 e12 e13 e14 g1 g2 g3 g4 g5 g6
   have HMe:Hid (∀ p:ExtW wr,Calls Tryz.prog 55 #[msgV m] p.to fun e w'=>e=.returned .nilIface∧Below p.to.heap.size p.to w'):=fun p=>(qre m p.to (g6.next (qaa HBw.out p.h))).mono fun e w' ⟨⟨v,he,hv⟩,hb⟩=>by
    rw [g5] at hv
    rcases hv with ⟨_,_,rfl⟩ | ⟨h,_⟩
    ·exact ⟨he,hb⟩
    ·exact absurd rfl h
   have fx5:=fun p:ExtW wr=>(HXr.out.next p.h).at_ 0 HQ0.out
   have fx6:=fun p:ExtW wr=>(HXr.out.next p.h).at_ 2 HQ2.out
   have q0:=fun p:ExtW wr=>p.cell (a:=⟨b,off + k * 15,none⟩) hbl e0
   have q1:=fun p:ExtW wr=>p.cell (a:=⟨b,off + k * 15 + 1,none⟩) hbl e1
   have q2:=fun p:ExtW wr=>p.cell (a:=⟨b,off + k * 15 + 2,none⟩) hbl e2
   have q3:=fun p:ExtW wr=>p.cell (a:=⟨b,off + k * 15 + 3,none⟩) hbl e3
   have q4:=fun p:ExtW wr=>p.cell (a:=⟨b,off + k * 15 + 4,none⟩) hbl e4
   have q5:=fun p:ExtW wr=>p.cell (a:=⟨b,off + k * 15 + 5,none⟩) hbl e5
   have q6:=fun p:ExtW wr=>p.cell (a:=⟨b,off + k * 15 + 6,none⟩) hbl e6
   have q7:=fun p:ExtW wr=>p.cell (a:=⟨b,off + k * 15 + 7,none⟩) hbl e7
   have q8:=fun p:ExtW wr=>p.cell (a:=⟨b,off + k * 15 + 8,none⟩) hbl e8
   have q9:=fun p:ExtW wr=>p.cell (a:=⟨b,off + k * 15 + 9,none⟩) hbl e9
   have q10:=fun p:ExtW wr=>p.cell (a:=⟨b,off + k * 15 + 10,none⟩) hbl e10
   have q11:=fun p:ExtW wr=>p.cell (a:=⟨b,off + k * 15 + 11,none⟩) hbl e11
   have q12:=fun p:ExtW wr=>p.cell (a:=⟨b,off + k * 15 + 12,none⟩) hbl e12
   have q13:=fun p:ExtW wr=>p.cell (a:=⟨b,off + k * 15 + 13,none⟩) hbl e13
   have q14:=fun p:ExtW wr=>p.cell (a:=⟨b,off + k * 15 + 14,none⟩) hbl e14
   have d1:decide (tt < 1)=false:=decide_eq_false (by omega)
   have d2:decide (r.n < tt)=false:=decide_eq_false (by omega)
   have d3:(tt == r.self)=false:=beq_eq_false_iff_ne.2 g3
   have d4:(m.fr != r.self)=false:=by simp [g4]
   clear f ho g1 g2 g3 g4 g5 g6 e0 e1 e2 e3 e4 e5 e6 e7 e8 e9 e10 e11 e12 e13 e14
   unfold msgV at HMe
   rw [hA]
   go_upto_region 4 with fail
   refine qad (by kernel_rfl) (by kernel_rfl) ?_
   repeat (first | go_big_quiet_step (((go_at_call 55;exact Calls.ext_of (HMe.out _)))) | quiet_step (((go_at_call 55;exact Calls.ext_of (HMe.out _)))))
   refine wpQuiet_nil ?_
   intro w' hw'
   obtain ⟨⟨W,hbW⟩,hw''⟩:=hw'
   have hw3:w'=W:=hw''
   subst hw3
   have HBW:=hI (qaa HB.out hbW)
   clear hbW hw'' fx5 fx6 q0 q1 q2 q3 q4 q5 q6 q7 q8 q9 q10 q11 q12 q13 q14
   go_wp2
   go_roundw
   case rel=>exact ⟨k + 1,by go_num,by omega,HBW.out⟩
   case measure=>simp [intOf];omega
  ·have hlt':decide ((k:Int) < (x.z.size:Int))=false:=decide_eq_false (by omega)
   go_wp2
   go_ret
   exact ⟨rfl,HBw.out⟩
end Go.Proofs.YtlkmagmdhopcjaaGreat
