/- Texts that the law leans on. -/
import Derived.Test.YtnmojicfmcbgmaaGreatDoorQIoK
import Derived.Deep.CutBlock
import Derived.Deep.CutRange
import Derived.Test.YtnmojicfmcbgmaaGreatDoorQImD
namespace Go.Proofs.YtnmojicfmcbgmaaGreatDoor
open Go.RowKit Go.Sort Go.Lib Nb
set_option maxRecDepth 100000
def DLsP {α β:Type} [Inhabited α] (kd:KD α) (pc:α→β) (nn:α→Prop) (s:ByteArray) (r:IS×List β) (w:World) (e:Ending) (w':World):Prop :=
 ∃ (pk:ByteArray) (A:Option Addr) (n c:Nat) (x:RW α),e=.returned (.tuple #[.agg (dI s r.1 pk (.slice A n c)),.slice x.A x.z.size x.c])∧RdX kd w.heap.size x w'∧(r.1.r.e=0→x.z.toList.map pc=r.2∧∀ y ∈ x.z.toList,nn y)∧Below w.heap.size w w'
structure TcF (s:ByteArray) (w:World) (p1 p2:Nat) (st:IS) (pc:ByteArray) (A:Option Addr) (n c:Nat) (W:World):Prop where
 x:W.heap[p1]?=some (.cells (dI s st pc (.slice A n c)) 98 (0,0))
 y:W.heap[p2]?=some (.cells dz 98 (0,0))
 b:Below w.heap.size w W
 q:w.heap.size≤p1∧p1 < p2
section
variable {s:ByteArray} {w W W':World} {p1 p2:Nat} {st:IS} {pc:ByteArray} {A:Option Addr} {n c:Nat}
theorem TcF.lt (h:TcF s w p1 p2 st pc A n c W):p2 < W.heap.size:=qaa h.y
theorem TcF.below (h:TcF s w p1 p2 st pc A n c W) (hb:Below W.heap.size W W'):TcF s w p1 p2 st pc A n c W' :=
 ⟨(hb.block _ (qaa h.x)).trans h.x,(hb.block _ (qaa h.y)).trans h.y,qac h.b hb,h.q⟩
theorem TcF.grown {g:Option Nat} (h:TcF s w p1 p2 st pc A n c W) (hg:W.grownBy W' g) (ho:∀ x,g=some x→p2 < x):TcF s w p1 p2 st pc A n c W':=by
 have q:=h.q
 refine ⟨qcv hg h.x ?_,qcv hg h.y ?_,h.b.grown hg h.b.size (fun x hx=>by have:=ho x hx;omega),q⟩
 all_goals (intro e;have:=ho _ e;omega)
theorem TcF.set (h:TcF s w p1 p2 st pc A n c W) (st':IS) (pc':ByteArray) (A':Option Addr) (n' c':Nat):TcF s w p1 p2 st' pc' A' n' c' (W.setRow p1 (dI s st' pc' (.slice A' n' c'))):=by
 have q:=h.q
 exact ⟨setRow_heap _ _ _ _ _ _ h.x,(setRow_other _ _ _ _ (by omega)).trans h.y,qbx h.b q.1 _,q⟩
theorem TcF.cells (h:TcF s w p1 p2 st pc A n c W):qgm W p1 6=true∧rowAt W p1=dI s st pc (.slice A n c)∧W.cell? ⟨p1,3,none⟩=some (.int .i64 (st.r.e:Int))∧W.cell? ⟨p1,4,none⟩=some (.slice A n c) :=
 ⟨qav h.x rfl,qbh h.x,(qab h.x 3).trans rfl,(qab h.x 4).trans rfl⟩
end
theorem qqr {W:World} {o:Option Nat}:W.grownBy W.drew o:=⟨rfl,rfl,rfl,Nat.le_refl _,fun _ _ _=>rfl⟩
theorem qyc {W:World} {g:Nat} (i:Nat) (v:Value):W.grownBy (W.setCell ⟨g,i,none⟩ v) (some g):=qal (World.grownBy.refl _ _) rfl _
theorem qsv {WL W w5:World} {g:Nat} {v:Value} {x:Obj} {o:Option Nat} (h:WL.grownBy W (some g)) (hg:(W.drew.alloc x).grownBy w5 o) (ho:∀ i,o=some i→WL.heap.size≤i):WL.grownBy (w5.setCell ⟨g,9,none⟩ v) (some g) :=
 (((h.andThen qqr (row':=none) (fun _ e=>by cases e)).andThen (World.grownBy_alloc _ x none) (fun _ e=>by cases e)).andThen hg (fun i e=>Or.inl (ho i e))).andThen (qyc 9 v) (fun i e=>Or.inr e)
attribute [local go_sem ↓] qfe qej qhv qgu
attribute [local go_sem] qfq qaq qby qbk qcn qkf qit
set_option maxHeartbeats 8000000 in
theorem dcmds_any (s pc:ByteArray) (st:IS) (A0:Option Addr) (n0 c0:Nat) (w:World) (hp:st.r.pos≤s.size) (hs:s.size≤1000000) :
 Calls Tryz.prog 43 #[.agg (dI s st pc (.slice A0 n0 c0))] w fun e w'=>DLsP kdE entM nnE s ((enC.list 1000 (by decide)).rd s.data.toList st) w e w':=by
 obtain ⟨i0,hi0,hz0,hz1,hz2⟩:=info_parts qwt
 obtain ⟨j0,hj0,hy0,hy1,hy2⟩:=info_parts infoK_X
 have hsl:s.data.toList.length=s.size:=by simp
 rcases e0:(numC 1000 (by decide)).rd s.data.toList st with ⟨st1,m1⟩
 rcases e1:qan (enC.rd s.data.toList) m1 st1 with ⟨st2,g1⟩
 have EE:Hid ((enC.list 1000 (by decide)).rd s.data.toList st=(st2,g1)):=(qjv e0).trans e1
 have HP1:Hid (st1.r.pos≤s.data.toList.length):=by have:=(numC 1000 (by decide)).far s.data.toList st (by rw [hsl];exact hp);rw [e0] at this;exact this
 have HM1:=hI (qgx e0)
 have HN1:Hid (∀ W,Calls Tryz.prog 42 #[.agg (dI s st pc (.slice A0 n0 c0)),.int .i64 1,.int .i64 1000] W fun e w'=>qiz s 1 (st1,[m1]) W e w'):=fun W=>by
  have:=qep s pc st A0 n0 c0 1 1000 (by decide) W hp hs (by decide)
  rw [qvk e0] at this
  exact this
 have HNM:Hid (∀ (pc:ByteArray) (x:IS) (m:Nat) A n c W,m≤9→x.r.pos≤s.data.toList.length→Calls Tryz.prog 42 #[.agg (dI s x pc (.slice A n c)),.int .i64 m,.int .i64 1000000] W fun e w'=>qiz s m (qan (nC.rd s.data.toList) m x) W e w'):=fun pc x m A n c W h9 h=>qep s pc x A n c m 1000000 (by decide) W (by rw [←hsl];exact h) hs h9
 have HTX:Hid (∀ (pc:ByteArray) (x:IS) A n c W,x.r.pos≤s.data.toList.length→Calls Tryz.prog 94 #[.agg (dI s x pc (.slice A n c))] W fun e w'=>(∃ pc',e=.returned (.tuple #[.agg (dI s ((qif 300 (by decide)).rd s.data.toList x).1 pc' (.slice A n c)),.string ⟨((qif 300 (by decide)).rd s.data.toList x).2.toArray⟩]))∧Below W.heap.size W w'):=fun pc x A n c W h=>qqo s pc x A n c W (by rw [←hsl];exact h) hs
 have HRW:Hid (∀ (pc:ByteArray) (x:IS) A n c W,x.r.pos≤s.data.toList.length→Calls Tryz.prog 44 #[.agg (dI s x pc (.slice A n c)),.int .i64 6] W fun e w'=>qhq 6 (by decide) s x W e w'):=fun pc x A n c W h=>drow6_any s pc x A n c W (by rw [←hsl];exact h) hs
 have HRF:Hid (∀ x:IS,(rowR s.data.toList 1000 x.r).2.length≤1000):=fun x=>qhe s.data.toList 1000 x.r (by decide)
 have E1:Hid (qan (enC.rd s.data.toList) m1 st1=(st2,g1)):=e1
 rw [EE.out]
 clear e0 e1 hp hs hsl EE
 obtain ⟨X0,hX0⟩:∃ y,y=dI s st pc (.slice A0 n0 c0):=⟨_,rfl⟩
 rw [←hX0]
 have HX0:=hI hX0
 have hXs:X0.size=6:=by rw [hX0];rfl
 clear hX0
 go_enter Tryz.func43,Tryz.ntmps43
 go_upto_region 1 with (fail)
 obtain ⟨wI,hwI⟩:∃ W,W=((w.alloc (.cells X0 98)).alloc (.cells #[.string ⟨#[]⟩,.int .i64 0,.string ⟨#[]⟩,.int .i64 0,.slice none 0 0,.bool false] 98)):=⟨_,rfl⟩
 obtain ⟨p1,hp1⟩:∃ p,p=w.heap.size:=⟨_,rfl⟩
 obtain ⟨p2,hp2⟩:∃ p,p=w.heap.size + 1:=⟨_,rfl⟩
 have F0:Hid (TcF s w p1 p2 st pc A0 n0 c0 wI):=by
  show TcF _ _ _ _ _ _ _ _ _ _
  rw [hwI,hp1,hp2,HX0.out]
  exact ⟨qay (qah w _) _,qcg w _ _,qad (bel1 w _) _,Nat.le_refl _,Nat.lt_succ_self _⟩
 rw [←hwI,←hp2,←hp1]
 clear hwI hp1 hp2 hXs HX0
 obtain ⟨x1,x2,z3,z4⟩:=F0.out.cells
 go_wp2_with fail
 refine (HN1.out _).mono ?_
 rintro _ w1 ⟨pc1,A1,c1,rfl,hrd1,hnc1,hfr1,hb1⟩
 clear x1 x2 z3 z4
 dsimp only at hrd1 ⊢
 have F1:=hI (F0.out.below hb1)
 obtain ⟨x1,x2,z3,z4⟩:=F1.out.cells
 have hst:=qaq w1 p1 (dI s st1 pc1 (.slice A1 1 c1)) x1 (qbk _ _ _ _) (qcn _ _ _ _ _ _)
 go_upto_region 3 with (fail)
 clear hst
 have F2:=hI (F1.out.set st1 pc1 A1 1 c1)
 have R2:=hI (RdI.set (p1:=p1) (cs:=dI s st1 pc1 (.slice A1 1 c1)) hrd1 hfr1 (by have:=F0.out.q;have:=F0.out.lt;omega))
 obtain ⟨w2,hw2⟩:∃ W,W=w1.setRow p1 (dI s st1 pc1 (.slice A1 1 c1)):=⟨_,rfl⟩
 rw [←hw2] at F2 R2 ⊢
 clear hw2 x1 x2 z3 z4 hrd1 hnc1 hfr1 hb1 F1 F0
 obtain ⟨b1,off,rfl,hbl,f⟩:=R2.out (by rw [qao];simp)
 have a0:=qbb (j:=0) f (by simp)
 obtain ⟨x1,x2,z3,z4⟩:=F2.out.cells
 simp only [List.getD_cons_zero,Nat.add_zero] at a0
 clear f
 go_wp2_with fail
 clear x1 x2 z3 z4 a0 hbl R2
 go_loopw [4,5] (fun v i W=>∃ (d:Nat) (z:Array EN) (v0:Value) (pc:ByteArray) (A:Option Addr) (n c:Nat),v0=v∧i=.int .i64 (d:Int)∧Hid (d + z.size=m1)∧d≤1000∧Hid (TcF s w p1 p2 (qan (enC.rd s.data.toList) z.size st1).1 pc A n c W)∧Hid (DmI kdE enC entM nnE 132 (p2 + 1) s st1 z v0 W)) (fun _ i _=>(intOf i).toNat)
 case atStart=>exact ⟨m1,#[],_,_,_,_,_,rfl,rfl,hI (by simp),HM1.out,F2,hI DmI.start⟩
 case round =>
  obtain ⟨d,z,v,pk,Ak,nk,ck,rfl,rfl,HD,hd,HF,HDm⟩:=hrel
  obtain ⟨stk,hstk⟩:∃ e,(qan (enC.rd s.data.toList) z.size st1).1=e:=⟨_,rfl⟩
  have HSK:=hI hstk
  rw [hstk] at HF
  have HPS:Hid (stk.r.pos≤s.data.toList.length):=by have:=qdy (C:=enC) (k:=z.size) HP1.out;rw [hstk] at this;exact this
  clear hstk
  obtain ⟨x1,x2,z3,z4⟩:=HF.out.cells
  by_cases h0:d=0
  ·subst h0
   have HE0:Hid (z.size≤m1∧(z.size=m1∨stk.r.e≠0)):=⟨by have:=HD.out;omega,Or.inl (by have:=HD.out;omega)⟩
   clear z3 z4
   obtain ⟨Av,cv,rfl⟩:=HDm.out.form
   have y1:qgm wr p2 6=true:=qav HF.out.y rfl
   have hst:=qaq wr p2 (dI s stk pk (.slice Ak nk ck)) y1 (qbk _ _ _ _) (qcn _ _ _ _ _ _)
   go_wp2
   have hE:=setRow_heap wr p2 _ (dI s stk pk (.slice Ak nk ck)) _ _ HF.out.y
   refine bodyPost_ret (qlq (T:=98) rfl rfl hE (qbk _ _ _ _)) rfl ?_
   obtain ⟨x,hx1,hx2,hx3⟩:=DmI.done HDm.out
   injection hx1 with hx4 _ hx5
   have KK:KF (p2 + 1) wr (wr.setRow p2 (dI s stk pk (.slice Ak nk ck))):=KF.of_setRow (Nat.lt_succ_self _) _ _
   obtain ⟨hf1,hf2⟩:=HDm.out.fin HE0.out.1 (by rw [HSK.out];exact HE0.out.2) E1.out
   rw [HSK.out] at hf1
   subst hf1
   refine ⟨pk,Ak,nk,ck,x,by rw [←hx4,←hx5,hx2];rfl,(hx3.kf KK).mono (by have:=HF.out.q;omega),fun h0=>?_,qbx HF.out.b (by have:=HF.out.q;omega) _⟩
   rw [hx2]
   exact hf2 h0
  ·have kz:(0:Int) < (d:Int):=by omega
   have kn:0 < d:=by omega
   by_cases hE:stk.r.e=0
   ·have z3':wr.cell? ⟨p1,3,none⟩=some (.int .i64 0):=by rw [z3,hE];rfl
    clear z3
    rcases hx:qan (nC.rd s.data.toList) 8 stk with ⟨stn,ln⟩
    obtain ⟨y0,y1,y2,y3,y4,y5,y6,y7,rfl⟩:=len8 (l:=ln) (by have:=qet (nC.rd s.data.toList) 8 stk;rw [hx] at this;exact this)
    rcases ht:(qif 300 (by decide)).rd s.data.toList stn with ⟨stx,tx⟩
    rcases hr:(rowC 6 (by decide)).rd s.data.toList stx with ⟨sty,g⟩
    have HX:Hid (enC.rd s.data.toList stk=(sty,([y0,y1,y2,y3,y4,y5,y6,y7],(tx,g)))):=qcb hx (qcb ht hr)
    have M9:=hI (acks_of (qdf hr))
    have HNk:Hid (∀ W,Calls Tryz.prog 42 #[.agg (dI s stk pk (.slice Ak nk ck)),.int .i64 8,.int .i64 1000000] W fun e w'=>qiz s 8 (stn,[y0,y1,y2,y3,y4,y5,y6,y7]) W e w'):=fun W=>by
     have:=HNM.out pk stk 8 Ak nk ck W (by decide) HPS.out
     rw [hx] at this
     exact this
    have HPN:Hid (stn.r.pos≤s.data.toList.length):=by have:=qdy (C:=nC) (k:=8) HPS.out;rw [hx] at this;exact this
    have HPX:Hid (stx.r.pos≤s.data.toList.length):=by have:=(qif 300 (by decide)).far s.data.toList stn HPN.out;rw [ht] at this;exact this
    have HTk:Hid (∀ (pc:ByteArray) A n c W,Calls Tryz.prog 94 #[.agg (dI s stn pc (.slice A n c))] W fun e w'=>(∃ pc',e=.returned (.tuple #[.agg (dI s stx pc' (.slice A n c)),.string ⟨tx.toArray⟩]))∧Below W.heap.size W w'):=fun pc A n c W=>by
     have:=HTX.out pc stn A n c W HPN.out
     rw [ht] at this
     exact this
    obtain ⟨lr,hlr⟩:∃ y,(rowR s.data.toList 1000 stx.r).2=y:=⟨_,rfl⟩
    have hll:lr.length≤1000:=by have:=HRF.out stx;rw [hlr] at this;exact this
    have HG:Hid (g=grp 6 (lr.length / 6) lr):=by
     have:((rowC 6 (by decide)).rd s.data.toList stx).2=g:=by rw [hr]
     show _=_
     rw [←this,←hlr]
     rfl
    have HRk:Hid (∀ (pc:ByteArray) A n c W,Calls Tryz.prog 44 #[.agg (dI s stx pc (.slice A n c)),.int .i64 6] W fun e w'=>∃ pc' A' c',e=.returned (.agg (dI s sty pc' (.slice A' lr.length c')))∧RdI w'.heap.size w' A' (ints lr)∧((A'=none→c'=0)∧lr.length≤c')∧Fr W.heap.size A'∧Below W.heap.size W w'):=fun pc A n c W=>by
     have:=HRW.out pc stx A n c W HPX.out
     unfold qhq at this
     rw [hr,hlr] at this
     exact this
    have hzs:z.size≤1000:=by have:=HD.out;have:=HM1.out;omega
    have HLW:Hid (p2 + 1≤wr.heap.size∧p1 < wr.heap.size):=by have:=HF.out.lt;have:=HF.out.q;exact ⟨by omega,by omega⟩
    clear hx ht hr hlr hE
    go_wp2_with fail
    refine (HNk.out _).mono ?_
    rintro _ w1 ⟨pc2,A1,c1,rfl,hrd1,hnc1,hfr1,hb1⟩
    dsimp only at hrd1 ⊢
    clear x1 x2 z3' z4 HNk hnc1
    have F1:=hI (HF.out.below hb1)
    obtain ⟨x1,x2,z3,z4⟩:=F1.out.cells
    have hst:=qaq w1 p1 (dI s stn pc2 (.slice A1 8 c1)) x1 (qbk _ _ _ _) (qcn _ _ _ _ _ _)
    go_upto_region 7 with (fail)
    clear hst x1 x2 z3 z4
    have F2:=hI (F1.out.set stn pc2 A1 8 c1)
    have R2:=hI (RdI.set (p1:=p1) (cs:=dI s stn pc2 (.slice A1 8 c1)) hrd1 hfr1 (by have:=HF.out.q;have:=HF.out.lt;omega))
    have K2:Hid (KF (p2 + 1) wr (w1.setRow p1 (dI s stn pc2 (.slice A1 8 c1)))):=KF.ts hb1 _ (by have:=HF.out.q;omega)
    have HFA:=hI hfr1
    obtain ⟨w2,hw2⟩:∃ W,W=w1.setRow p1 (dI s stn pc2 (.slice A1 8 c1)):=⟨_,rfl⟩
    rw [←hw2] at F2 R2 K2 ⊢
    clear hw2 hrd1 hfr1 hb1 F1
    obtain ⟨x1,x2,z3,z4⟩:=F2.out.cells
    go_wp2_with fail
    refine (HTk.out _ _ _ _ _).mono ?_
    rintro _ w3 ⟨⟨pc3,rfl⟩,hb3⟩
    clear x1 x2 z3 z4 HTk
    have F3:=hI (F2.out.below hb3)
    have R3:=hI (R2.out.below' hb3)
    have K3:=hI (K2.out.trans (KF.of_below hb3))
    have hst:=qby w3 w3.heap.size #[.string ⟨#[]⟩,.int .i64 0,.string ⟨#[]⟩,.int .i64 0,.slice none 0 0,.bool false] (dI s stx pc3 (.slice A1 8 c1)) rfl rfl (qbk _ _ _ _) (qcn _ _ _ _ _ _)
    go_upto_region 9 with (fail)
    clear hst
    have hb4:=bel1 w3 (.cells (dI s stx pc3 (.slice A1 8 c1)) 98)
    have Q4:Hid ((w3.alloc (.cells (dI s stx pc3 (.slice A1 8 c1)) 98)).heap[w3.heap.size]?=some (.cells (dI s stx pc3 (.slice A1 8 c1)) 98 (0,0))):=qah w3 _
    have F4:=hI (F3.out.below hb4)
    have R4:=hI (R3.out.below' hb4)
    have K4:=hI (K3.out.trans (KF.of_below hb4))
    have HQ4:Hid (wr.heap.size≤w3.heap.size):=K3.out.size
    obtain ⟨w4,hw4⟩:∃ W,W=w3.alloc (.cells (dI s stx pc3 (.slice A1 8 c1)) 98):=⟨_,rfl⟩
    obtain ⟨q,hq⟩:∃ p,p=w3.heap.size:=⟨_,rfl⟩
    rw [←hq] at Q4 HQ4 ⊢
    rw [←hw4] at Q4 F4 R4 K4 ⊢
    clear hw4 hq hb3 hb4 F3 R3 K3 F2 R2 K2
    obtain ⟨b1,off,rfl,hbl,f⟩:=R4.out (by rw [qao];simp)
    have KS:Hid (∀ W:World,(∀ i,i < w4.heap.size→W.heap[i]?=w4.heap[i]?)→W.cell? ⟨b1,off,none⟩=some (.int .i64 (y0:Int))∧W.cell? ⟨b1,off + 1,none⟩=some (.int .i64 (y1:Int))∧W.cell? ⟨b1,off + 2,none⟩=some (.int .i64 (y2:Int))∧W.cell? ⟨b1,off + 3,none⟩=some (.int .i64 (y3:Int))∧W.cell? ⟨b1,off + 4,none⟩=some (.int .i64 (y4:Int))∧W.cell? ⟨b1,off + 5,none⟩=some (.int .i64 (y5:Int))∧W.cell? ⟨b1,off + 6,none⟩=some (.int .i64 (y6:Int))∧W.cell? ⟨b1,off + 7,none⟩=some (.int .i64 (y7:Int))):=fun W hst=>⟨qau (qbb (j:=0) f (by simp)) (hst b1 hbl),qau (qbb (j:=1) f (by simp)) (hst b1 hbl),qau (qbb (j:=2) f (by simp)) (hst b1 hbl),qau (qbb (j:=3) f (by simp)) (hst b1 hbl),qau (qbb (j:=4) f (by simp)) (hst b1 hbl),qau (qbb (j:=5) f (by simp)) (hst b1 hbl),qau (qbb (j:=6) f (by simp)) (hst b1 hbl),qau (qbb (j:=7) f (by simp)) (hst b1 hbl)⟩
    clear f hbl R4 HFA
    obtain ⟨zs,hzs2⟩:∃ y,y=(#[.int .i64 0,.int .i64 0,.int .i64 0,.int .i64 0,.int .i64 0,.int .i64 0,.int .i64 0,.int .i64 0,.string ⟨#[]⟩,.slice none 0 0]:Array Value):=⟨_,rfl⟩
    obtain ⟨ce,hce⟩:∃ y,y=(#[.int .i64 (y0:Int),.int .i64 (y1:Int),.int .i64 (y2:Int),.int .i64 (y3:Int),.int .i64 (y4:Int),.int .i64 (y5:Int),.int .i64 (y6:Int),.int .i64 (y7:Int),.string ⟨tx.toArray⟩,.slice none 0 0]:Array Value):=⟨_,rfl⟩
    have HZ:zs.size=10:=by rw [hzs2];rfl
    have HI:ce.size=10:=by rw [hce];rfl
    have H1:qbw ce=true:=by rw [hce];simp [qbw,Value.oneCell']
    have HZS:=hI hzs2
    have HCE:=hI hce
    clear hzs2 hce
    go_cut [9] from 37 to 62 (fun v wx=>∃ p9,v=.pointer (some ⟨p9,0,none⟩)∧Hid (wx.heap[p9]?=some (.cells ce 132 (0,0)))∧Hid (w4.heap.size≤p9∧Below w4.heap.size w4 wx))
    case first =>
     go_wp2_with fail
     refine qat (S:=fun W=>W.cell? ⟨b1,off,none⟩=some (.int .i64 (y0:Int))∧W.cell? ⟨b1,off + 1,none⟩=some (.int .i64 (y1:Int))∧W.cell? ⟨b1,off + 2,none⟩=some (.int .i64 (y2:Int))∧W.cell? ⟨b1,off + 3,none⟩=some (.int .i64 (y3:Int))∧W.cell? ⟨b1,off + 4,none⟩=some (.int .i64 (y4:Int))∧W.cell? ⟨b1,off + 5,none⟩=some (.int .i64 (y5:Int))∧W.cell? ⟨b1,off + 6,none⟩=some (.int .i64 (y6:Int))∧W.cell? ⟨b1,off + 7,none⟩=some (.int .i64 (y7:Int))) (by kernel_rfl) ?_
     have hS:=KS.out _ (fun _ _=>rfl)
     refine tkF 37 0 rfl rfl hS ?_
     simp only [Act.put,sA,s0,s1]
     refine tkF 38 1 rfl rfl hS ?_
     simp only [Act.put,sA,s0,s1]
     refine tkF 39 2 rfl rfl hS ?_
     simp only [Act.put,sA,s0,s1]
     refine tkF 40 3 rfl rfl hS ?_
     simp only [Act.put,sA,s0,s1]
     refine tkF 41 4 rfl rfl hS ?_
     simp only [Act.put,sA,s0,s1]
     refine tkF 42 5 rfl rfl hS ?_
     simp only [Act.put,sA,s0,s1]
     refine tkF 43 6 rfl rfl hS ?_
     simp only [Act.put,sA,s0,s1]
     refine tkF 44 7 rfl rfl hS ?_
     simp only [Act.put,sA,s0,s1]
     refine tkF 45 8 rfl rfl hS ?_
     simp only [Act.put,sA,s0,s1]
     refine tkF 46 9 rfl rfl hS ?_
     simp only [Act.put,sA,s0,s1]
     refine tkF 47 10 rfl rfl hS ?_
     simp only [Act.put,sA,s0,s1]
     refine tkF 48 11 rfl rfl hS ?_
     simp only [Act.put,sA,s0,s1]
     refine tkF 49 12 rfl rfl hS ?_
     simp only [Act.put,sA,s0,s1]
     refine tkF 50 13 rfl rfl hS ?_
     simp only [Act.put,sA,s0,s1]
     refine tkF 51 14 rfl rfl hS ?_
     simp only [Act.put,sA,s0,s1]
     refine tkF 52 15 rfl rfl hS ?_
     simp only [Act.put,sA,s0,s1]
     refine tkF 53 16 rfl rfl hS ?_
     simp only [Act.put,sA,s0,s1]
     refine tkF 54 17 rfl rfl hS ?_
     simp only [Act.put,sA,s0,s1]
     refine tkF 55 18 rfl rfl hS ?_
     simp only [Act.put,sA,s0,s1]
     refine tkF 56 19 rfl rfl hS ?_
     simp only [Act.put,sA,s0,s1]
     refine tkF 57 20 rfl rfl hS ?_
     simp only [Act.put,sA,s0,s1]
     refine tkF 58 21 rfl rfl hS ?_
     simp only [Act.put,sA,s0,s1]
     refine tkF 59 22 rfl rfl hS ?_
     simp only [Act.put,sA,s0,s1]
     refine tkF 60 23 rfl rfl hS ?_
     simp only [Act.put,sA,s0,s1]
     refine tkF 61 24 rfl rfl hS ?_
     simp only [Act.put,sA,s0,s1]
     refine tkF 62 25 rfl rfl hS ?_
     simp only [Act.put,sA,s0,s1]
     refine rdy1 26 rfl (fun K hK=>?_)
     go_simp
     rw [←HZS.out]
     refine hK.out _ _ (KS.out _ (fun i h=>Below.heap_alloc w4.drew _ i h)) (fun _=>?_)
     clear hK K hS
     have hbx:=qcd (w4.alloc (.cells zs 132)).drew w4.heap.size _ zs ce (qah w4 _) (by rw [HZ,HI]) H1
     rw [←HCE.out]
     refine rdyL 27 rfl (fun K hK=>?_)
     go_simp
     refine hK.out _ _ ?_
     clear hK K hbx
     refine qas (by kernel_rfl) ?_ _
     go_wp2
     go_meet
     exact ⟨_,rfl,hI (setRow_heap (w4.alloc (.cells zs 132)).drew _ _ _ _ _ (qah w4 _)),hI ⟨Nat.le_refl _,qbx (bel1 w4 _).drew (Nat.le_refl _) _⟩⟩
    case rest =>
     obtain ⟨p9,rfl,P9,hcb⟩:=hcut
     have HB5:=hI hcb.out.2
     have HP9:=hI hcb.out.1
     clear hcb KS
     have F5:=hI (F4.out.below HB5.out)
     have Q5:=hI ((HB5.out.block _ (qaa Q4.out)).trans Q4.out)
     have K5:=hI (K4.out.trans (KF.of_below HB5.out))
     have HP9W:Hid (p9 < wc.heap.size):=qaa P9.out
     have HQ9:Hid (p2 < p9∧wr.heap.size≤p9):=by have:=HP9.out;have:=F4.out.lt;have:=K4.out.size;exact ⟨by omega,by omega⟩
     obtain ⟨w5,hw5⟩:∃ W,W=wc:=⟨_,rfl⟩
     rw [←hw5] at F5 Q5 K5 P9 HP9W ⊢
     clear hw5 HB5 HP9 F4 Q4 K4
     have q1:=qav Q5.out (qbk _ _ _ _)
     have q2:=qbh Q5.out
     go_wp2_with fail
     refine (HRk.out _ _ _ _ _).mono ?_
     rintro _ w6 ⟨pc4,A2,c2,rfl,hrd2,hnc2,hfr2,hb6⟩
     have F6:=hI (F5.out.below hb6)
     obtain ⟨x1,x2,z3,z4⟩:=F6.out.cells
     have hst:=qaq w6 p1 (dI s sty pc4 (.slice A2 lr.length c2)) x1 (qbk _ _ _ _) (qcn _ _ _ _ _ _)
     clear q1 q2
     go_upto_region 11 with (fail)
     clear hst x1 x2 z3 z4
     have F7:=hI (F6.out.set sty pc4 A2 lr.length c2)
     have R7:=hI (RdI.set (p1:=p1) (cs:=dI s sty pc4 (.slice A2 lr.length c2)) hrd2 hfr2 (by have:=F5.out.q;have:=F5.out.lt;omega))
     have K7:Hid (KF (p2 + 1) wr (w6.setRow p1 (dI s sty pc4 (.slice A2 lr.length c2)))):=K5.out.trans (KF.ts hb6 _ (by have:=F5.out.q;omega))
     have P7:Hid ((w6.setRow p1 (dI s sty pc4 (.slice A2 lr.length c2))).heap[p9]?=some (.cells ce 132 (0,0))):=(setRow_other _ _ _ _ (by have:=F5.out.q;have:=HQ9.out;omega)).trans ((hb6.block _ HP9W.out).trans P9.out)
     have HFA2:Hid (Fr (p9 + 1) A2):=hfr2.mono HP9W.out
     have hcap:lr.length≤c2:=hnc2.2
     obtain ⟨w7,hw7⟩:∃ W,W=w6.setRow p1 (dI s sty pc4 (.slice A2 lr.length c2)):=⟨_,rfl⟩
     rw [←hw7] at F7 R7 K7 P7 ⊢
     clear hw7 hrd2 hfr2 hnc2 hb6 F6 F5 K5 P9 Q5 HP9W
     obtain ⟨wo,hwo⟩:∃ wo:World,wo=wr:=⟨_,rfl⟩
     rw [←hwo] at HF HDm K7 HQ4 HQ9 HLW
     clear hwo
     go_wp2_with fail
     go_loopw [10] (fun i W=>∃ (j q:Nat) (va:Value),i=.int .i64 (q:Int)∧Hid (q=j * 6)∧j * 6≤lr.length∧Hid (w7.grownBy W (some p9))∧Hid (W.heap[p9]?=some (.cells #[.int .i64 (y0:Int),.int .i64 (y1:Int),.int .i64 (y2:Int),.int .i64 (y3:Int),.int .i64 (y4:Int),.int .i64 (y5:Int),.int .i64 (y6:Int),.int .i64 (y7:Int),.string ⟨tx.toArray⟩,va] 132 (0,0)))∧Hid (W.ownsRow w7.heap.size 136 6 va j (flatK encK 6 (qbv (grp 6 j lr))).toList)) (fun i _=>lr.length + 6 - (intOf i).toNat)
     case atStart=>exact ⟨0,0,.slice none 0 0,rfl,hI (by simp),by omega,hI (World.grownBy.refl _ _),by rw [←HCE.out];exact P7,hI (qda _ _ _ _ _)⟩
     case round =>
      obtain ⟨j,q,va,rfl,HQ,hk,HGR,HPE,HOW⟩:=hrel
      have hqb:q≤1000:=by have:=HQ.out;omega
      have FR:=hI (F7.out.grown HGR.out (fun x e=>by injection e with e;have:=HQ9.out;omega))
      obtain ⟨x1,x2,z3,z4⟩:=FR.out.cells
      by_cases hlt:q + 6≤lr.length
      ·have kz:(q:Int) + 5 < (lr.length:Int):=by omega
       have kq:j * 6 + 6≤lr.length:=by have:=HQ.out;omega
       obtain ⟨b2,of2,rfl,hbl2,f⟩:=R7.out (by rw [qao];omega)
       have hb29:b2≠p9:=by have:=HFA2.out _ rfl;simp only at this;omega
       have hG:=hI (grp_snoc 6 j lr)
       have HS:Hid ((qbv (grp 6 (j + 1) lr))=(qbv (grp 6 j lr)).push (⟨((lr.getD (q + 0) 0:Nat):Int),((lr.getD (q + 1) 0:Nat):Int),((lr.getD (q + 2) 0:Nat):Int),((lr.getD (q + 3) 0:Nat):Int),((lr.getD (q + 4) 0:Nat):Int),((lr.getD (q + 5) 0:Nat):Int)⟩)):=by
        show _=_
        rw [hG.out]
        unfold qbv
        rw [List.map_append,List.map_cons,List.map_nil]
        unfold toK
        rw [qcc (j:=0) kq (by decide),qcc (j:=1) kq (by decide),qcc (j:=2) kq (by decide),qcc (j:=3) kq (by decide),qcc (j:=4) kq (by decide),qcc (j:=5) kq (by decide),←HQ.out]
        simp
       have e0:w7.cell? ⟨b2,of2 + q,none⟩=some (.int .i64 ((lr.getD (q + 0) 0:Nat):Int)):=by rw [show of2 + q=of2 + (q + 0) by omega,f (q + 0) (by rw [qao];omega),qbo (by omega)]
       obtain ⟨u0,hu0⟩:∃ y:Int,((lr.getD (q + 0) 0:Nat):Int)=y:=⟨_,rfl⟩
       rw [hu0] at e0 HS
       clear hu0
       have e1:w7.cell? ⟨b2,of2 + q + 1,none⟩=some (.int .i64 ((lr.getD (q + 1) 0:Nat):Int)):=by rw [show of2 + q + 1=of2 + (q + 1) by omega,f (q + 1) (by rw [qao];omega),qbo (by omega)]
       obtain ⟨u1,hu1⟩:∃ y:Int,((lr.getD (q + 1) 0:Nat):Int)=y:=⟨_,rfl⟩
       rw [hu1] at e1 HS
       clear hu1
       have e2:w7.cell? ⟨b2,of2 + q + 2,none⟩=some (.int .i64 ((lr.getD (q + 2) 0:Nat):Int)):=by rw [show of2 + q + 2=of2 + (q + 2) by omega,f (q + 2) (by rw [qao];omega),qbo (by omega)]
       obtain ⟨u2,hu2⟩:∃ y:Int,((lr.getD (q + 2) 0:Nat):Int)=y:=⟨_,rfl⟩
       rw [hu2] at e2 HS
       clear hu2
       have e3:w7.cell? ⟨b2,of2 + q + 3,none⟩=some (.int .i64 ((lr.getD (q + 3) 0:Nat):Int)):=by rw [show of2 + q + 3=of2 + (q + 3) by omega,f (q + 3) (by rw [qao];omega),qbo (by omega)]
       obtain ⟨u3,hu3⟩:∃ y:Int,((lr.getD (q + 3) 0:Nat):Int)=y:=⟨_,rfl⟩
       rw [hu3] at e3 HS
       clear hu3
       have e4:w7.cell? ⟨b2,of2 + q + 4,none⟩=some (.int .i64 ((lr.getD (q + 4) 0:Nat):Int)):=by rw [show of2 + q + 4=of2 + (q + 4) by omega,f (q + 4) (by rw [qao];omega),qbo (by omega)]
       obtain ⟨u4,hu4⟩:∃ y:Int,((lr.getD (q + 4) 0:Nat):Int)=y:=⟨_,rfl⟩
       rw [hu4] at e4 HS
       clear hu4
       have e5:w7.cell? ⟨b2,of2 + q + 5,none⟩=some (.int .i64 ((lr.getD (q + 5) 0:Nat):Int)):=by rw [show of2 + q + 5=of2 + (q + 5) by omega,f (q + 5) (by rw [qao];omega),qbo (by omega)]
       obtain ⟨u5,hu5⟩:∃ y:Int,((lr.getD (q + 5) 0:Nat):Int)=y:=⟨_,rfl⟩
       rw [hu5] at e5 HS
       clear hu5
       have hva9:va.ownBlock≠some p9:=fun e=>by have:=(HOW.out.lt _ e).1;have:=qaa P7.out;omega
       have hvab:va.ownBlock≠some b2:=fun e=>by have:=(HOW.out.lt _ e).1;omega
       have KS:Hid (∀ W:World,(∀ i,i < wr.heap.size→va.ownBlock≠some i→W.heap[i]?=wr.heap[i]?)→W.cell? ⟨p9,9,none⟩=some va∧W.cell? ⟨b2,of2 + q,none⟩=some (.int .i64 u0)∧W.cell? ⟨b2,of2 + q + 1,none⟩=some (.int .i64 u1)∧W.cell? ⟨b2,of2 + q + 2,none⟩=some (.int .i64 u2)∧W.cell? ⟨b2,of2 + q + 3,none⟩=some (.int .i64 u3)∧W.cell? ⟨b2,of2 + q + 4,none⟩=some (.int .i64 u4)∧W.cell? ⟨b2,of2 + q + 5,none⟩=some (.int .i64 u5)):=fun W hst =>
        ⟨qau ((qab HPE.out 9).trans rfl) (hst p9 (qaa HPE.out) hva9),qau (a:=⟨b2,of2 + q,none⟩) (HGR.out.cell e0 (by intro e;injection e with e;exact hb29 e)) (hst b2 (Nat.lt_of_lt_of_le hbl2 HGR.out.size) hvab),qau (a:=⟨b2,of2 + q + 1,none⟩) (HGR.out.cell e1 (by intro e;injection e with e;exact hb29 e)) (hst b2 (Nat.lt_of_lt_of_le hbl2 HGR.out.size) hvab),qau (a:=⟨b2,of2 + q + 2,none⟩) (HGR.out.cell e2 (by intro e;injection e with e;exact hb29 e)) (hst b2 (Nat.lt_of_lt_of_le hbl2 HGR.out.size) hvab),qau (a:=⟨b2,of2 + q + 3,none⟩) (HGR.out.cell e3 (by intro e;injection e with e;exact hb29 e)) (hst b2 (Nat.lt_of_lt_of_le hbl2 HGR.out.size) hvab),qau (a:=⟨b2,of2 + q + 4,none⟩) (HGR.out.cell e4 (by intro e;injection e with e;exact hb29 e)) (hst b2 (Nat.lt_of_lt_of_le hbl2 HGR.out.size) hvab),qau (a:=⟨b2,of2 + q + 5,none⟩) (HGR.out.cell e5 (by intro e;injection e with e;exact hb29 e)) (hst b2 (Nat.lt_of_lt_of_le hbl2 HGR.out.size) hvab)⟩
       have hown2:=qbj HOW.out (qad (Below.refl wr.heap.size wr).drew (.cells #[.int .i64 u0,.int .i64 u1,.int .i64 u2,.int .i64 u3,.int .i64 u4,.int .i64 u5] 136))
       clear e0 e1 e2 e3 e4 e5 f hva9 hvab
       go_upto_region 15 with (fail)
       clear x1 x2 z3 z4 kz
       go_wp2_with fail
       refine qat (S:=fun W=>W.cell? ⟨p9,9,none⟩=some va∧W.cell? ⟨b2,of2 + q,none⟩=some (.int .i64 u0)∧W.cell? ⟨b2,of2 + q + 1,none⟩=some (.int .i64 u1)∧W.cell? ⟨b2,of2 + q + 2,none⟩=some (.int .i64 u2)∧W.cell? ⟨b2,of2 + q + 3,none⟩=some (.int .i64 u3)∧W.cell? ⟨b2,of2 + q + 4,none⟩=some (.int .i64 u4)∧W.cell? ⟨b2,of2 + q + 5,none⟩=some (.int .i64 u5)) (by kernel_rfl) ?_
       have hS:=KS.out _ qls
       refine tkF 79 0 rfl rfl hS ?_
       simp only [Act.put,sA,s0,s1]
       refine tkF 80 1 rfl rfl hS ?_
       simp only [Act.put,sA,s0,s1]
       refine tkF 81 2 rfl rfl hS ?_
       simp only [Act.put,sA,s0,s1]
       refine tkF 82 3 rfl rfl hS ?_
       simp only [Act.put,sA,s0,s1]
       refine tkF 83 4 rfl rfl hS ?_
       simp only [Act.put,sA,s0,s1]
       refine tkF 84 5 rfl rfl hS ?_
       simp only [Act.put,sA,s0,s1]
       refine tkF 85 6 rfl rfl hS ?_
       simp only [Act.put,sA,s0,s1]
       refine tkF 86 7 rfl rfl hS ?_
       simp only [Act.put,sA,s0,s1]
       refine tkF 87 8 rfl rfl hS ?_
       simp only [Act.put,sA,s0,s1]
       refine tkF 88 9 rfl rfl hS ?_
       simp only [Act.put,sA,s0,s1]
       refine tkF 89 10 rfl rfl hS ?_
       simp only [Act.put,sA,s0,s1]
       refine tkF 90 11 rfl rfl hS ?_
       simp only [Act.put,sA,s0,s1]
       refine tkF 91 12 rfl rfl hS ?_
       simp only [Act.put,sA,s0,s1]
       refine tkF 92 13 rfl rfl hS ?_
       simp only [Act.put,sA,s0,s1]
       refine tkF 93 14 rfl rfl hS ?_
       simp only [Act.put,sA,s0,s1]
       refine tkF 94 15 rfl rfl hS ?_
       simp only [Act.put,sA,s0,s1]
       refine tkF 95 16 rfl rfl hS ?_
       simp only [Act.put,sA,s0,s1]
       refine tkF 96 17 rfl rfl hS ?_
       simp only [Act.put,sA,s0,s1]
       refine tkF 97 18 rfl rfl hS ?_
       simp only [Act.put,sA,s0,s1]
       refine tkF 98 19 rfl rfl hS ?_
       simp only [Act.put,sA,s0,s1]
       refine tkF 99 20 rfl rfl hS ?_
       simp only [Act.put,sA,s0,s1]
       refine rdy1 21 rfl (fun K hK=>?_)
       go_simp
       refine hK.out _ _ (KS.out _ (qjw _)) (fun _=>?_)
       clear hK K hS
       refine rdy1 22 rfl (fun K hK=>?_)
       refine qff (by rfl) _ _ _ (by rfl) w7.heap.size 136 j0 (.agg #[.int .i64 0,.int .i64 0,.int .i64 0,.int .i64 0,.int .i64 0,.int .i64 0]) 6 48 Tryz.underlying130 hj0 hy0 hy1 hy2 rfl (by decide) _ j (flatK encK 6 (qbv (grp 6 j lr))).toList (by rfl) hown2 ⟨wr.heap.size,0,none⟩ 1 1 [.int .i64 u0,.int .i64 u1,.int .i64 u2,.int .i64 u3,.int .i64 u4,.int .i64 u5] (by rfl) (by rfl) (qeg (qah wr.drew _)) (by simp [Value.oneCell']) (by unfold maxLen;omega) (by omega) (by have:=HGR.out.size;simp;omega) ?_
       intro v' w8 hown5 hgrow5 hat5
       obtain ⟨Av,cv,rfl⟩:=qdo hown5
       have KS5:=KS.out _ (qhg hgrow5)
       refine hK.out _ _ KS5 (fun _=>?_)
       clear hK K
       have hS:=KS5
       refine tkF 102 23 rfl rfl hS ?_
       simp only [Act.put,List.setIfInBounds_toArray]
       clear hS KS5
       have hP8:w8.heap[p9]?=some (.cells #[.int .i64 (y0:Int),.int .i64 (y1:Int),.int .i64 (y2:Int),.int .i64 (y3:Int),.int .i64 (y4:Int),.int .i64 (y5:Int),.int .i64 (y6:Int),.int .i64 (y7:Int),.string ⟨tx.toArray⟩,va] 132 (0,0)):=(qhg hgrow5 p9 (qaa HPE.out) (fun e=>by have:=(HOW.out.lt _ e).1;have:=qaa P7.out;omega)).trans HPE.out
       have HG8:=hI (fun v=>qsv (v:=v) HGR.out hgrow5 (fun i e=>(HOW.out.lt i e).1))
       have HO8:=hI (fun v=>qiy (w':=w8.setCell ⟨p9,9,none⟩ v) hown5 (fun i h1 _=>Below.heap_setCell _ _ _ _ (by show i≠p9;have:=qaa P7.out;omega)))
       have HP8:=hI hP8
       have c9:=(qab hP8 9).trans rfl
       have f9:=Lib.frozen_of_heap hP8 9
       have hl:=qaa hP8
       clear hgrow5 hat5 hown5 hown2 KS hP8
       refine rdyL 24 rfl (fun K hK=>?_)
       go_simp
       refine hK.out _ _ ?_
       clear hK K c9 f9 hl
       refine qas (by kernel_rfl) ?_ _
       go_wp2
       go_roundw
       case rel =>
        refine ⟨j + 1,q + 6,.slice Av (j + 1) cv,by go_num,hI (by have:=HQ.out;omega),by omega,hI (HG8.out _),hI (qaj HP8.out 9 _),?_⟩
        rw [HS.out,qcr (enc:=encK) (k:=6) (fun _=>rfl)]
        exact hI (HO8.out _)
       case measure=>simp [intOf];omega
      ·have kz:decide ((q:Int) + 5 < (lr.length:Int))=false:=decide_eq_false (by omega)
       have hkd:lr.length / 6=j:=by have:=HQ.out;omega
       have hsz:(qbv (grp 6 j lr)).size=j:=by unfold qbv;simp [qig]
       obtain ⟨Aa,ca,rfl,h1,h2,h3,h4⟩:=qeo (d:=qbv (grp 6 j lr)) (by rw [hsz];exact HOW.out)
       have HE:Hid (grp 6 j lr=g):=by show _=_;rw [HG.out,hkd]
       rw [HE.out] at h1 h2 hsz HPE
       have HXR:Hid (kdE.rd wr (⟨(y0:Int),(y1:Int),(y2:Int),(y3:Int),(y4:Int),(y5:Int),(y6:Int),(y7:Int),⟨tx.toArray⟩,Aa,ca,qbv g⟩:EN)):=⟨h1,h2⟩
       have HXB:Hid (∀ blk,kdE.rw (⟨(y0:Int),(y1:Int),(y2:Int),(y3:Int),(y4:Int),(y5:Int),(y6:Int),(y7:Int),⟨tx.toArray⟩,Aa,ca,qbv g⟩:EN) blk→w7.heap.size≤blk):=fun blk hb=>by have e1:rwB Aa (qbv g) blk:=hb;exact e1.fr h4
       have hx1:qgm wr p9 10=true:=qav HPE.out rfl
       have hx2:=qbh HPE.out
       have K8:Hid (KF (p2 + 1) wo wr):=K7.out.ext HGR.out.size (fun i i1 i2=>HGR.out.block i (Nat.lt_of_lt_of_le i2 K7.out.size) (by intro e;injection e with e;have:=HQ9.out;omega))
       have hown2:=qbj (HDm.out.kf K8.out).own (bel1 wr (.cells #[.int .i64 (y0:Int),.int .i64 (y1:Int),.int .i64 (y2:Int),.int .i64 (y3:Int),.int .i64 (y4:Int),.int .i64 (y5:Int),.int .i64 (y6:Int),.int .i64 (y7:Int),.string ⟨tx.toArray⟩,.slice Aa j ca] 132))
       go_wp2_with (at_builtin;refine wpList_append_own_at _ rfl _ _ 22 rfl (p2 + 1) 132 i0 (.agg #[.int .i64 0,.int .i64 0,.int .i64 0,.int .i64 0,.int .i64 0,.int .i64 0,.int .i64 0,.int .i64 0,.string ⟨#[]⟩,.slice none 0 0]) 10 104 Tryz.underlying22 hi0 hz0 hz1 hz2 rfl (by decide) _ _ _ rfl hown2 ⟨wr.heap.size,0,none⟩ 1 1 [.int .i64 (y0:Int),.int .i64 (y1:Int),.int .i64 (y2:Int),.int .i64 (y3:Int),.int .i64 (y4:Int),.int .i64 (y5:Int),.int .i64 (y6:Int),.int .i64 (y7:Int),.string ⟨tx.toArray⟩,.slice Aa j ca] rfl rfl (qcl wr _ _) (by simp [Value.oneCell']) (by unfold maxLen;omega) (by omega) (by have:=K8.out.size;have:=HLW.out;simp;omega) ?_;intro v' wE hown3 hgrow _ hat)
       go_roundw
       case rel =>
        have hb:=bel1 wr (.cells #[.int .i64 (y0:Int),.int .i64 (y1:Int),.int .i64 (y2:Int),.int .i64 (y3:Int),.int .i64 (y4:Int),.int .i64 (y5:Int),.int .i64 (y6:Int),.int .i64 (y7:Int),.string ⟨tx.toArray⟩,.slice Aa j ca] 132)
        have hown4:wE.ownsRow (p2 + 1) 132 kdE.k v' (z.size + 1) ((flatK kdE.en kdE.k z).toList ++ kdE.en (⟨(y0:Int),(y1:Int),(y2:Int),(y3:Int),(y4:Int),(y5:Int),(y6:Int),(y7:Int),⟨tx.toArray⟩,Aa,ca,qbv g⟩:EN)):=by
         show wE.ownsRow _ _ _ _ _ (_ ++ [.int .i64 (y0:Int),.int .i64 (y1:Int),.int .i64 (y2:Int),.int .i64 (y3:Int),.int .i64 (y4:Int),.int .i64 (y5:Int),.int .i64 (y6:Int),.int .i64 (y7:Int),.string ⟨tx.toArray⟩,.slice Aa (qbv g).size ca])
         rw [hsz]
         exact hown3
        refine ⟨d - 1,z.push ⟨(y0:Int),(y1:Int),(y2:Int),(y3:Int),(y4:Int),(y5:Int),(y6:Int),(y7:Int),⟨tx.toArray⟩,Aa,ca,qbv g⟩,v',pc4,A2,lr.length,c2,rfl,by go_num,hI (by have:=HD.out;rw [Array.size_push];omega),by omega,?_,?_⟩
        ·have e:(qan (enC.rd s.data.toList) (z.push ⟨(y0:Int),(y1:Int),(y2:Int),(y3:Int),(y4:Int),(y5:Int),(y6:Int),(y7:Int),⟨tx.toArray⟩,Aa,ca,qbv g⟩:Array EN).size st1).1=sty:=by
          rw [Array.size_push,qcm,HSK.out,HX.out]
         rw [e]
         exact hI (((F7.out.grown HGR.out (fun x e=>by injection e with e;have:=HQ9.out;omega)).below hb).grown hgrow (fun x e=>by have:=HDm.out.oldB x e;omega))
        ·refine hI (HDm.out.step (K8.out.trans (KF.of_below hb)) (kdE.keep HXR.out hb.size (fun blk h=>hb.block blk (kdE.lt HXR.out h))) (fun blk h=>Nat.le_trans K7.out.size (HXB.out blk h)) HLW.out.1 ?_ ?_ hown4 hgrow (fun _=>hat.imp id (fun e=>⟨_,e,Nat.le_refl _⟩)))
         ·rw [HSK.out,HX.out]
          show (ent8 _,(tx,(qbv g).toList.map ackN))=_
          rw [M9.out.1]
          rfl
         ·exact ⟨by simp only;omega,M9.out.2⟩
       case measure=>simp [intOf];omega
   ·have HE0:Hid (z.size≤m1∧(z.size=m1∨stk.r.e≠0)):=⟨by have:=HD.out;omega,Or.inr hE⟩
    obtain ⟨ek,hek⟩:∃ e,stk.r.e=e:=⟨_,rfl⟩
    rw [hek] at z3 hE
    have hne:((ek:Int) == 0)=false:=by simpa using hE
    clear hek hE z4
    obtain ⟨Av,cv,rfl⟩:=HDm.out.form
    have y1:qgm wr p2 6=true:=qav HF.out.y rfl
    have hst:=qaq wr p2 (dI s stk pk (.slice Ak nk ck)) y1 (qbk _ _ _ _) (qcn _ _ _ _ _ _)
    go_wp2
    have hE:=setRow_heap wr p2 _ (dI s stk pk (.slice Ak nk ck)) _ _ HF.out.y
    refine bodyPost_ret (qlq (T:=98) rfl rfl hE (qbk _ _ _ _)) rfl ?_
    obtain ⟨x,hx1,hx2,hx3⟩:=DmI.done HDm.out
    injection hx1 with hx4 _ hx5
    have KK:KF (p2 + 1) wr (wr.setRow p2 (dI s stk pk (.slice Ak nk ck))):=KF.of_setRow (Nat.lt_succ_self _) _ _
    obtain ⟨hf1,hf2⟩:=HDm.out.fin HE0.out.1 (by rw [HSK.out];exact HE0.out.2) E1.out
    rw [HSK.out] at hf1
    subst hf1
    refine ⟨pk,Ak,nk,ck,x,by rw [←hx4,←hx5,hx2];rfl,(hx3.kf KK).mono (by have:=HF.out.q;omega),fun h0=>?_,qbx HF.out.b (by have:=HF.out.q;omega) _⟩
    rw [hx2]
    exact hf2 h0
end Go.Proofs.YtnmojicfmcbgmaaGreatDoor
namespace Go.Proofs.YtnmojicfmcbgmaaGreatDoor
open Go.RowKit Go.Sort Go.Lib Nb
set_option maxRecDepth 100000
attribute [local go_sem ↓] Go.wp_at_zero Go.wp_at_succ
def sB (l:List UInt8):ByteArray:=⟨l.toArray⟩
theorem qox (l:List UInt8):(sB l).size=l.length:=qdv l
theorem sB_app (l m:List UInt8):sB l ++ ⟨m.toArray⟩=sB (l ++ m):=by
 apply ByteArray.ext
 apply Array.ext'
 simp [sB]
theorem sB_nil:sB []=⟨#[]⟩:=rfl
theorem qqs {g c:Nat} (l:List UInt8) (xs:List Int) (W:World) (hg:W.heap[g]?=some (.cells (xs.map (Value.int .i64)).toArray 3 (0,0))) (hx:∀ x ∈ xs,may6 x) (hs:xs.length≤1000) (hl:l.length≤800000000) :
 Calls Tryz.prog 32 #[.agg #[.string (sB l),.string ⟨#[]⟩,.int .i64 0],.slice (some ⟨g,0,none⟩) xs.length c] W fun e w'=>e=.returned (.agg #[.string (sB (l ++ (xs.map Int.toNat).flatMap numB)),.string ⟨#[]⟩,.int .i64 0])∧Below W.heap.size W w':=by
 have:=Nums_any (sB l) (some ⟨g,0,none⟩) c xs.toArray W (rdI_blk_D (by rw [hg];simp [encI])) (qhz hx) (by simp;omega) (by rw [qox];omega)
 rw [qiv,sB_app] at this
 simp only [List.size_toArray] at this
 exact this
theorem dRow (l:List UInt8) (A:Option Addr) (c:Nat) (d:Array Int) (W:World) (h:RdI W.heap.size W A d) (hm:∀ x ∈ d.toList,may6 x) (hs:d.size≤6000) (hl:l.length≤800000000) :
 Calls Tryz.prog 33 #[.agg #[.string (sB l),.string ⟨#[]⟩,.int .i64 0],.slice A d.size c] W fun e w'=>e=.returned (.agg #[.string (sB (l ++ rowB (nats d))),.string ⟨#[]⟩,.int .i64 0])∧Below W.heap.size W w':=by
 have hd:LayN d:=by have:=qhz hm;simpa using this
 have:=qys (sB l) A c d W h hd (by omega) (by rw [qox];omega)
 rwa [sB_app] at this
theorem dText (l:List UInt8) (s:ByteArray) (W:World) (hs:s.size≤1000) (hl:l.length≤800000000) :
 Calls Tryz.prog 37 #[.agg #[.string (sB l),.string ⟨#[]⟩,.int .i64 0],.string s] W fun e w'=>e=.returned (.agg #[.string (sB (l ++ qea s.data.toList)),.string ⟨#[]⟩,.int .i64 0])∧Below W.heap.size W w':=by
 have:=qti (sB l) s W (by rw [qox];omega)
 rwa [sB_app] at this
structure DW (w0:World) (g:Nat) (l:List UInt8) (w:World):Prop where
 h:w.heap[g]?=some (.cells #[.string (sB l),.string ⟨#[]⟩,.int .i64 0] 75 (0,0))
 b:Below w0.heap.size w0 w
theorem DW.step {w0 w w':World} {g:Nat} {l:List UInt8} (h:DW w0 g l w) (hb:Below w.heap.size w w'):DW w0 g l w':=⟨(hb.block _ (qaa h.h)).trans h.h,qac h.b hb⟩
theorem DW.lt {w0 w:World} {g:Nat} {l:List UInt8} (h:DW w0 g l w):g < w.heap.size:=qaa h.h
theorem DW.set {w0 w:World} {g:Nat} {l:List UInt8} (h:DW w0 g l w) (hg:w0.heap.size≤g) (l':List UInt8):DW w0 g l' (((w.setCell ⟨g,0,none⟩ (.string (sB l'))).setCell ⟨g,1,none⟩ (.string ⟨#[]⟩)).setCell ⟨g,2,none⟩ (.int .i64 0)):=⟨qtf h.h _ _ _,bel3 h.b hg _ _ _⟩
theorem new3_D (w:World) (a b o:Obj):(((w.alloc a).alloc b).alloc o).heap[w.heap.size + 1 + 1]?=some o:=by
 have:=qah ((w.alloc a).alloc b) o
 simpa using this
theorem newD_D (w:World) (o:Obj):(w.drew.alloc o).heap[w.heap.size]?=some o:=qah w.drew o
set_option maxHeartbeats 4000000 in
theorem rCmds_any (l:List UInt8) (A:Option Addr) (c:Nat) (z:Array EN) (w:World) (hr:RdT0 w A z) (hm:∀ x ∈ z.toList,EntB x) (hs:z.size≤100) (hl:l.length≤10000000) :
 Calls Tryz.prog 34 #[.agg #[.string (sB l),.string ⟨#[]⟩,.int .i64 0],.slice A z.size c] w fun e w'=>e=.returned (.agg #[.string (sB (l ++ (enC.list 1000 (by decide)).b (z.toList.map entM))),.string ⟨#[]⟩,.int .i64 0])∧Below w.heap.size w w':=by
 obtain ⟨i0,hi0,hz0,hz1,hz2⟩:=info_parts qfg
 have HR:=hI hr
 have HM:=hI hm
 have HD0:Hid (DW w w.heap.size l ((w.alloc (.cells #[.string (sB l),.string ⟨#[]⟩,.int .i64 0] 75)).alloc (.cells #[.string ⟨#[]⟩,.string ⟨#[]⟩,.int .i64 0] 75))):=hI ⟨qay (heap_alloc_new w _) _,qad (bel1 w _) _⟩
 have HT0:Hid (((w.alloc (.cells #[.string (sB l),.string ⟨#[]⟩,.int .i64 0] 75)).alloc (.cells #[.string ⟨#[]⟩,.string ⟨#[]⟩,.int .i64 0] 75)).heap[w.heap.size + 1]?=some (.cells #[.string ⟨#[]⟩,.string ⟨#[]⟩,.int .i64 0] 75 (0,0))):=heap_alloc2_new w _ _
 have HN:=hI (fun g W (hg:W.heap[g]?=some (.cells #[.int .i64 (z.size:Int)] 3 (0,0)))=>qqs (g:=g) (c:=1) l [(z.size:Int)] W hg (by intro x hx;simp only [List.mem_cons,List.not_mem_nil,or_false] at hx;subst hx;unfold may6;omega) (by simp) (by omega))
 simp only [List.length_cons,List.length_nil,Nat.zero_add,List.map_cons,List.map_nil,Int.toNat_natCast,List.flatMap_cons,List.flatMap_nil,List.append_nil] at HN
 obtain ⟨l1,hl1⟩:∃ x,l ++ numB z.size=x:=⟨_,rfl⟩
 have hl1s:l1.length≤10000010:=by
  have:=qbp z.size (by omega)
  rw [←hl1,List.length_append];omega
 rw [hl1] at HN
 have HL1:=hI hl1
 clear hr hm hl1 hl
 go_enter Tryz.func34,Tryz.ntmps34
 go_wp2_with fail
 with_reducible refine (HN.out (w.heap.size + 1 + 1) _ (new3_D _ _ _ _)).mono ?_
 rintro _ w1 ⟨rfl,hb1⟩
 have HD1:=hI (HD0.out.step (qac (bel1 _ _) hb1))
 have HT1:Hid (w1.heap[w.heap.size + 1]?=some (.cells #[.string ⟨#[]⟩,.string ⟨#[]⟩,.int .i64 0] 75 (0,0))):=((qac (bel1 _ _) hb1).block _ (qaa HT0.out)).trans HT0.out
 obtain ⟨b0,b1,b2,g0,g1,g2⟩:=qaz HD1.out.h
 have hzw:w.heap.size < w1.heap.size:=HD1.out.lt
 have HD2:=hI (HD1.out.set (Nat.le_refl _) l1)
 have HT2:Hid ((((w1.setCell ⟨w.heap.size,0,none⟩ (.string (sB l1))).setCell ⟨w.heap.size,1,none⟩ (.string ⟨#[]⟩)).setCell ⟨w.heap.size,2,none⟩ (.int .i64 0)).heap[w.heap.size + 1]?=some (.cells #[.string ⟨#[]⟩,.string ⟨#[]⟩,.int .i64 0] 75 (0,0))):=(qfy (by omega) _ _ _).trans HT1.out
 clear hb1 HN HD0 HT0 HD1 HT1
 go_wp2
 go_loopw [5] (fun i wr=>∃ k:Nat,i=.int .i64 (k:Int)∧k≤z.size∧Hid (DW w w.heap.size (l1 ++ qef z k) wr)∧Hid (wr.heap[w.heap.size + 1]?=some (.cells #[.string ⟨#[]⟩,.string ⟨#[]⟩,.int .i64 0] 75 (0,0)))) (fun i _=>z.size - (intOf i).toNat)
 case atStart=>exact ⟨0,rfl,Nat.zero_le _,hI (by simpa [qef] using HD2.out),HT2⟩
 case round =>
  obtain ⟨k,rfl,hk,HWr,HTr⟩:=hrel
  by_cases hlt:k < z.size
  ·have kz:(k:Int) < (z.size:Int):=by omega
   have HS:Hid (qef z (k + 1)=qef z k ++ enC.b (entM z[k]!)):=by show _=_;unfold qef;rw [qbi _ _ hlt]
   have hlr:(l1 ++ qef z k).length≤12000000:=by
    have:=qlo HM.out k hk
    have:k * 10000≤100 * 10000:=Nat.mul_le_mul_right _ (by omega)
    rw [List.length_append];omega
   have hRT:=HR.out.below HWr.out.b
   obtain ⟨b2,off,rfl,hb2,f⟩:=hRT.rd.at_ (i:=k) hlt
   have HE:=hI (HM.out z[k]! (by rw [getElem!_pos z k hlt];simp))
   have HEL:=hI (HR.out.el k hlt)
   obtain ⟨x,hx⟩:∃ x,z[k]! = x:=⟨_,rfl⟩
   rw [hx] at f HS HE HEL
   have e0:=f 0 (by omega)
   have e1:=f 1 (by omega)
   have e2:=f 2 (by omega)
   have e3:=f 3 (by omega)
   have e4:=f 4 (by omega)
   have e5:=f 5 (by omega)
   have e6:=f 6 (by omega)
   have e7:=f 7 (by omega)
   have e8:=f 8 (by omega)
   have e9:=f 9 (by omega)
   clear hx f hRT
   simp only [Nat.add_zero,encE,List.getElem!_cons_zero,List.getElem!_cons_succ] at e0 e1 e2 e3 e4 e5 e6 e7 e8 e9
   have hbr:=HWr.out.lt
   obtain ⟨l2,hl2⟩:∃ y,l1 ++ qef z k=y:=⟨_,rfl⟩
   rw [hl2] at HWr hlr
   have HL2:=hI hl2
   clear hl2
   obtain ⟨wa,hwa⟩:∃ W,W=wr.alloc (.cells #[.int .i64 x.id,.int .i64 x.ph,.int .i64 x.qu,.int .i64 x.t,.int .i64 x.bal,.int .i64 x.abal,.int .i64 x.seen,.int .i64 x.age,.string x.pay,.slice x.A x.z.size x.c] 132):=⟨_,rfl⟩
   have HBa:Hid (Below wr.heap.size wr wa):=by show Below _ _ _;rw [hwa];exact bel1 wr _
   have KE:Hid (wa.heap[wr.heap.size]?=some (.cells #[.int .i64 x.id,.int .i64 x.ph,.int .i64 x.qu,.int .i64 x.t,.int .i64 x.bal,.int .i64 x.abal,.int .i64 x.seen,.int .i64 x.age,.string x.pay,.slice x.A x.z.size x.c] 132 (0,0))):=by show _=_;rw [hwa];exact heap_alloc_new wr _
   have HDa:=hI (HWr.out.step HBa.out)
   have HTa:Hid (wa.heap[w.heap.size + 1]?=some (.cells #[.string ⟨#[]⟩,.string ⟨#[]⟩,.int .i64 0] 75 (0,0))):=(HBa.out.block _ (qaa HTr.out)).trans HTr.out
   have HWA:=hI hwa
   clear hwa
   go_upto_region 6 with (fail)
   rw [←HWA.out]
   clear e0 e1 e2 e3 e4 e5 e6 e7 e8 e9 HWA
   have KS:Hid (∀ W,Below wa.heap.size wa W→W.cell? ⟨w.heap.size,0,none⟩=some (.string (sB l2))∧W.cell? ⟨w.heap.size,1,none⟩=some (.string ⟨#[]⟩)∧W.cell? ⟨w.heap.size,2,none⟩=some (.int .i64 0)∧W.cell? ⟨wr.heap.size,0,none⟩=some (.int .i64 x.id)∧W.cell? ⟨wr.heap.size,1,none⟩=some (.int .i64 x.ph)∧W.cell? ⟨wr.heap.size,2,none⟩=some (.int .i64 x.qu)∧W.cell? ⟨wr.heap.size,3,none⟩=some (.int .i64 x.t)∧W.cell? ⟨wr.heap.size,4,none⟩=some (.int .i64 x.bal)∧W.cell? ⟨wr.heap.size,5,none⟩=some (.int .i64 x.abal)∧W.cell? ⟨wr.heap.size,6,none⟩=some (.int .i64 x.seen)∧W.cell? ⟨wr.heap.size,7,none⟩=some (.int .i64 x.age)∧W.cell? ⟨wr.heap.size,8,none⟩=some (.string x.pay)):=fun W hb=>by
    have k1:=(hb.block _ (qaa HDa.out.h)).trans HDa.out.h
    have k2:=(hb.block _ (qaa KE.out)).trans KE.out
    exact ⟨by rw [qab k1];rfl,by rw [qab k1];rfl,by rw [qab k1];rfl,by rw [qab k2];rfl,by rw [qab k2];rfl,by rw [qab k2];rfl,by rw [qab k2];rfl,by rw [qab k2];rfl,by rw [qab k2];rfl,by rw [qab k2];rfl,by rw [qab k2];rfl,by rw [qab k2];rfl⟩
   refine qat (S:=fun W=>W.cell? ⟨w.heap.size,0,none⟩=some (.string (sB l2))∧W.cell? ⟨w.heap.size,1,none⟩=some (.string ⟨#[]⟩)∧W.cell? ⟨w.heap.size,2,none⟩=some (.int .i64 0)∧W.cell? ⟨wr.heap.size,0,none⟩=some (.int .i64 x.id)∧W.cell? ⟨wr.heap.size,1,none⟩=some (.int .i64 x.ph)∧W.cell? ⟨wr.heap.size,2,none⟩=some (.int .i64 x.qu)∧W.cell? ⟨wr.heap.size,3,none⟩=some (.int .i64 x.t)∧W.cell? ⟨wr.heap.size,4,none⟩=some (.int .i64 x.bal)∧W.cell? ⟨wr.heap.size,5,none⟩=some (.int .i64 x.abal)∧W.cell? ⟨wr.heap.size,6,none⟩=some (.int .i64 x.seen)∧W.cell? ⟨wr.heap.size,7,none⟩=some (.int .i64 x.age)∧W.cell? ⟨wr.heap.size,8,none⟩=some (.string x.pay)) (by kernel_rfl) ?_
   have hS:=KS.out wa.drew (Below.refl _ _).drew
   refine tkF 25 0 rfl rfl hS ?_
   simp only [Act.put,sA,s0,s1]
   refine tkF 26 1 rfl rfl hS ?_
   simp only [Act.put,sA,s0,s1]
   refine tkF 27 2 rfl rfl hS ?_
   simp only [Act.put,sA,s0,s1]
   refine tkF 28 3 rfl rfl hS ?_
   simp only [Act.put,sA,s0,s1]
   refine tkF 29 4 rfl rfl hS ?_
   simp only [Act.put,sA,s0,s1]
   refine tkF 30 5 rfl rfl hS ?_
   simp only [Act.put,sA,s0,s1]
   refine tkF 31 6 rfl rfl hS ?_
   simp only [Act.put,sA,s0,s1]
   refine tkF 32 7 rfl rfl hS ?_
   simp only [Act.put,sA,s0,s1]
   refine tkF 33 8 rfl rfl hS ?_
   simp only [Act.put,sA,s0,s1]
   refine tkF 34 9 rfl rfl hS ?_
   simp only [Act.put,sA,s0,s1]
   refine tkF 35 10 rfl rfl hS ?_
   simp only [Act.put,sA,s0,s1]
   refine tkF 36 11 rfl rfl hS ?_
   simp only [Act.put,sA,s0,s1]
   refine tkF 37 12 rfl rfl hS ?_
   simp only [Act.put,sA,s0,s1]
   refine tkF 38 13 rfl rfl hS ?_
   simp only [Act.put,sA,s0,s1]
   refine tkF 39 14 rfl rfl hS ?_
   simp only [Act.put,sA,s0,s1]
   refine tkF 40 15 rfl rfl hS ?_
   simp only [Act.put,sA,s0,s1]
   refine tkF 41 16 rfl rfl hS ?_
   simp only [Act.put,sA,s0,s1]
   refine tkF 44 19 rfl rfl hS ?_
   simp only [Act.put,sA,s0,s1]
   refine tkF 45 20 rfl rfl hS ?_
   simp only [Act.put,sA,s0,s1]
   have HN8:=hI (fun g W (hg:W.heap[g]?=some (.cells #[.int .i64 x.id,.int .i64 x.ph,.int .i64 x.qu,.int .i64 x.t,.int .i64 x.bal,.int .i64 x.abal,.int .i64 x.seen,.int .i64 x.age] 3 (0,0)))=>qqs (g:=g) (c:=8) l2 [x.id,x.ph,x.qu,x.t,x.bal,x.abal,x.seen,x.age] W hg HE.out.n (by simp) (by omega))
   have e8:([x.id,x.ph,x.qu,x.t,x.bal,x.abal,x.seen,x.age].map Int.toNat).flatMap numB=(ent8 x).flatMap numB:=rfl
   rw [e8] at HN8
   have h8l:((ent8 x).flatMap numB).length≤72:=qvh HE.out
   simp only [List.length_cons,List.length_nil,Nat.zero_add,Nat.reduceAdd] at HN8
   obtain ⟨l3,hl3⟩:∃ y,l2 ++ (ent8 x).flatMap numB=y:=⟨_,rfl⟩
   have hl3s:l3.length≤12000100:=by rw [←hl3,List.length_append];omega
   rw [hl3] at HN8
   have HL3:=hI hl3
   have HTX:=hI (fun W=>dText l3 x.pay W (by have:=HE.out.p;omega) (by omega))
   have hpl:(qea x.pay.data.toList).length≤400:=qsr HE.out
   obtain ⟨l4,hl4⟩:∃ y,l3 ++ qea x.pay.data.toList=y:=⟨_,rfl⟩
   have hl4s:l4.length≤12000600:=by rw [←hl4,List.length_append];omega
   rw [hl4] at HTX
   have HL4:=hI hl4
   clear hl3 hl4 e8 h8l hpl
   refine rdy1 17 rfl (fun K hK=>?_)
   go_simp
   refine hK.out _ _ (KS.out _ (qad (Below.refl _ _).drew _)) (fun _=>?_)
   clear hK K
   refine rdy1 18 rfl (fun K hK=>?_)
   go_simp
   refine (HN8.out wa.heap.size _ (newD_D _ _)).mono ?_
   rintro _ w5 ⟨rfl,hb5⟩
   have B5:=hI (qac (qad (Below.refl _ _).drew _) hb5)
   clear hb5
   refine hK.out _ _ (KS.out _ B5.out) (fun _=>?_)
   clear hK K
   refine rdy1 21 rfl (fun K hK=>?_)
   go_simp
   refine (HTX.out _).mono ?_
   rintro _ w6 ⟨rfl,hb6⟩
   have B6:=hI (qac B5.out hb6)
   clear hb6
   refine hK.out _ _ (KS.out _ B6.out) (fun _=>?_)
   clear hK K
   have O6:=hI (HDa.out.step B6.out)
   obtain ⟨o0,o1,o2,g0,g1,g2⟩:=qaz O6.out.h
   refine rdyL 22 rfl (fun K hK=>?_)
   go_simp
   refine hK.out _ _ ?_
   clear hK K o0 o1 o2 g0 g1 g2
   refine qas (by kernel_rfl) ?_ _
   have HD7:=hI (O6.out.set (Nat.le_refl _) l4)
   have KE7:Hid ((((w6.setCell ⟨w.heap.size,0,none⟩ (.string (sB l4))).setCell ⟨w.heap.size,1,none⟩ (.string ⟨#[]⟩)).setCell ⟨w.heap.size,2,none⟩ (.int .i64 0)).heap[wr.heap.size]?=some (.cells #[.int .i64 x.id,.int .i64 x.ph,.int .i64 x.qu,.int .i64 x.t,.int .i64 x.bal,.int .i64 x.abal,.int .i64 x.seen,.int .i64 x.age,.string x.pay,.slice x.A x.z.size x.c] 132 (0,0))):=(qfy (by omega) _ _ _).trans ((B6.out.block _ (qaa KE.out)).trans KE.out)
   have HT7:Hid ((((w6.setCell ⟨w.heap.size,0,none⟩ (.string (sB l4))).setCell ⟨w.heap.size,1,none⟩ (.string ⟨#[]⟩)).setCell ⟨w.heap.size,2,none⟩ (.int .i64 0)).heap[w.heap.size + 1]?=some (.cells #[.string ⟨#[]⟩,.string ⟨#[]⟩,.int .i64 0] 75 (0,0))):=(qfy (by omega) _ _ _).trans ((B6.out.block _ (qaa HTa.out)).trans HTa.out)
   obtain ⟨w7,hw7⟩:∃ W,W=((w6.setCell ⟨w.heap.size,0,none⟩ (.string (sB l4))).setCell ⟨w.heap.size,1,none⟩ (.string ⟨#[]⟩)).setCell ⟨w.heap.size,2,none⟩ (.int .i64 0):=⟨_,rfl⟩
   rw [←hw7] at HD7 KE7 HT7 ⊢
   have HRK:=hI (HEL.out.below HD7.out.b).rd
   clear hw7 hS KS B5 B6 O6 HN8 HTX HBa HDa HTa KE
   go_wp2_with fail
   go_loopw [7,8] (fun v i W=>∃ (j:Nat) (xs:List Int),i=.int .i64 (j:Int)∧j≤x.z.size∧Hid (xs=(x.z.toList.take j).flatMap celK)∧W.ownsRow w7.heap.size 3 1 v xs.length (xs.map (Value.int .i64))∧Hid (Below w7.heap.size w7 W)) (fun _ i _=>x.z.size - (intOf i).toNat)
   case atStart=>exact ⟨0,[],rfl,Nat.zero_le _,hI (by simp),World.ownsRow_nil _ _ _ _,hI (Below.refl _ _)⟩
   case round =>
    obtain ⟨j,xs,rfl,hj,HX,hown,HB⟩:=hrel
    rename World=>W
    have hzz:=HE.out.z
    have hxl:xs.length≤600:=by rw [HX.out,qln x.z j hj];omega
    have c9:=(cell_of_row W wr.heap.size 9 _ _ (0,0) ((HB.out.block _ (qaa KE7.out)).trans KE7.out)).trans rfl
    by_cases hlt2:j < x.z.size
    ·have jz:(j:Int) < (x.z.size:Int):=by omega
     have HSj:Hid ((x.z.toList.take (j + 1)).flatMap celK=xs ++ celK x.z[j]!):=by show _=_;rw [qbi _ _ hlt2,←HX.out]
     obtain ⟨b3,off3,hA,hb3,f⟩:=(HRK.out.below HB.out).at_ (i:=j) hlt2
     rw [hA] at c9
     obtain ⟨y,hy⟩:∃ y,x.z[j]! = y:=⟨_,rfl⟩
     rw [hy] at f HSj
     have e0:=f 0 (by omega)
     have e1:=f 1 (by omega)
     have e2:=f 2 (by omega)
     have e3:=f 3 (by omega)
     have e4:=f 4 (by omega)
     have e5:=f 5 (by omega)
     clear hy f hA
     simp only [Nat.add_zero,encK,List.getElem!_cons_zero,List.getElem!_cons_succ] at e0 e1 e2 e3 e4 e5
     have HG:=hI (heap_alloc2_new W (.cells #[.int .i64 y.kind,.int .i64 y.frm,.int .i64 y.bal,.int .i64 y.t,.int .i64 y.abal,.int .i64 y.ph] 136) (.cells #[.int .i64 y.kind,.int .i64 y.frm,.int .i64 y.bal,.int .i64 y.t,.int .i64 y.abal,.int .i64 y.ph] 3))
     have HB2:=hI (qad (qad HB.out (.cells #[.int .i64 y.kind,.int .i64 y.frm,.int .i64 y.bal,.int .i64 y.t,.int .i64 y.abal,.int .i64 y.ph] 136)) (.cells #[.int .i64 y.kind,.int .i64 y.frm,.int .i64 y.bal,.int .i64 y.t,.int .i64 y.abal,.int .i64 y.ph] 3))
     have hown2:=qhi hown (qad (bel1 W (.cells #[.int .i64 y.kind,.int .i64 y.frm,.int .i64 y.bal,.int .i64 y.t,.int .i64 y.abal,.int .i64 y.ph] 136)) (.cells #[.int .i64 y.kind,.int .i64 y.frm,.int .i64 y.bal,.int .i64 y.t,.int .i64 y.abal,.int .i64 y.ph] 3))
     go_wp2_with (at_builtin;refine wpList_append_own _ rfl _ _ 26 rfl w7.heap.size 3 i0 (.int .i64 0) 1 8 Tryz.underlying26 hi0 hz0 hz1 hz2 rfl (by decide) _ _ _ rfl hown2 ⟨W.heap.size + 1,0,none⟩ 6 6 ((celK y).map (Value.int .i64)) rfl (by simp [qiw]) (qiu (xs:=(celK y).map (Value.int .i64)) HG.out) (by intro u hu;obtain ⟨q,_,rfl⟩:=List.mem_map.1 hu;rfl) (by unfold maxLen;omega) (by omega) HB2.out.size ?_;intro v' w9 hown3 hgrow _)
     go_roundw
     case rel=>exact ⟨j + 1,xs ++ celK y,by go_num,by omega,hI HSj.out.symm,by simpa [qiw] using hown3,hI (HB2.out.grown hgrow HB2.out.size (qgz hown2))⟩
     case measure=>simp [intOf];omega
    ·have hlt2':decide ((j:Int) < (x.z.size:Int))=false:=decide_eq_false (by omega)
     have hjd:j=x.z.size:=by omega
     have hxs:xs=x.z.toList.flatMap celK:=by rw [HX.out,hjd,List.take_of_length_le (by simp)]
     obtain ⟨A2,c2,rfl,hrd⟩:=qdm hown
     have HDw:=hI (HD7.out.step HB.out)
     have HWR:=hI (dRow l4 A2 c2 xs.toArray W hrd (by rw [hxs];exact qvg HE.out.k) (by simp;omega) (by omega))
     rw [show nats xs.toArray=(ackM x.z).flatten by rw [hxs];exact qvf] at HWR
     simp only [List.size_toArray] at HWR
     obtain ⟨b0,b1,b2,g0,g1,g2⟩:=qaz HDw.out.h
     clear hxs hrd hown HX g0 g1 g2
     go_wp2_with fail
     refine HWR.out.mono ?_
     rintro _ w9 ⟨rfl,hb9⟩
     have HD9:=hI (HDw.out.step hb9)
     have HT9:Hid (w9.heap[w.heap.size + 1]?=some (.cells #[.string ⟨#[]⟩,.string ⟨#[]⟩,.int .i64 0] 75 (0,0))):=((qac HB.out hb9).block _ (qaa HT7.out)).trans HT7.out
     clear hb9 b0 b1 b2
     obtain ⟨b0,b1,b2,g0,g1,g2⟩:=qaz HD9.out.h
     have hz9:w.heap.size < w9.heap.size:=HD9.out.lt
     go_wp2
     go_roundw
     case rel =>
      refine ⟨k + 1,by go_num,by omega,hI ?_,(qfy (by omega) _ _ _).trans HT9.out⟩
      have e:l1 ++ qef z (k + 1)=l4 ++ rowB (ackM x.z).flatten:=by
       rw [HS.out,←List.append_assoc,HL2.out,←HL4.out,←HL3.out]
       show l2 ++ ((ent8 x).flatMap numB ++ (qea x.pay.data.toList ++ rowB (ackM x.z).flatten))=_
       simp only [List.append_assoc]
      rw [e]
      exact HD9.out.set (Nat.le_refl _) _
     case measure=>simp [intOf];omega
  ·have hlt':decide ((k:Int) < (z.size:Int))=false:=decide_eq_false (by omega)
   obtain ⟨b0,b1,b2,_,_,_⟩:=qaz HWr.out.h
   obtain ⟨d0,d1,d2,g0,g1,g2⟩:=qaz HTr.out
   have hz2:w.heap.size + 1 < wr.heap.size:=qaa HTr.out
   go_wp2
   obtain ⟨k0,k1,k2,_,_,_⟩:=qaz (qtf HTr.out (.string (sB (l1 ++ qef z k))) (.string ⟨#[]⟩) (.int .i64 0))
   refine bodyPost_ret (v:=.agg #[.string (sB (l1 ++ qef z k)),.string ⟨#[]⟩,.int .i64 0]) (by simp [results,Tryz.results34,go_sem,k0,k1,k2]) rfl ⟨?_,bel3 HWr.out.b (by omega) _ _ _⟩
   have e:l ++ (enC.list 1000 (by decide)).b (z.toList.map entM)=l1 ++ qef z k:=by
    have e1:qef z z.size=(z.toList.map entM).flatMap enC.b:=by
     unfold qef
     rw [List.take_of_length_le (by simp),List.flatMap_map]
    have hkz:k=z.size:=by omega
    rw [hkz,e1,←HL1.out,List.append_assoc]
    have hz:(z.toList.map entM).length=z.size:=by simp
    show l ++ (numB (z.toList.map entM).length ++ (z.toList.map entM).flatMap enC.b)=_
    rw [hz]
   rw [e]
end Go.Proofs.YtnmojicfmcbgmaaGreatDoor
