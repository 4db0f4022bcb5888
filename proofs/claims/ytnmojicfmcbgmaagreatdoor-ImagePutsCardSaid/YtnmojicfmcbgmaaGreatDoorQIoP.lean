/- Texts that the law leans on. -/
import Derived.Test.YtnmojicfmcbgmaaGreatDoorQIoO
namespace Go.Proofs.YtnmojicfmcbgmaaGreatDoor
open Go.RowKit Go.Sort Go.Lib Nb
set_option maxRecDepth 100000
def hR (n:Nat) (a:Array Value) (k m f d:Value):Array Value:=#[.int .i64 (n:Int),a[0]!,a[1]!,a[2]!,a[3]!,a[4]!,a[5]!,a[6]!,a[7]!,k,m,f,d,a[8]!,a[9]!,a[10]!,a[11]!,a[12]!]
theorem hR_size (n:Nat) (a:Array Value) (k m f d:Value):(hR n a k m f d).size=18:=rfl
structure ThF (s:ByteArray) (n:Nat) (a:Array Value) (w:World) (p1 p2 p3 p4:Nat) (st:IS) (pc:ByteArray) (A:Option Addr) (ln c:Nat) (k m f d:Value) (W:World):Prop where
 x:W.heap[p1]?=some (.cells (dI s st pc (.slice A ln c)) 98 (0,0))
 r:W.heap[p2]?=some (.cells (hR n a k m f d) 35 (0,0))
 y:W.heap[p3]?=some (.cells dz 98 (0,0))
 z:W.heap[p4]?=some (.cells #[.int .i64 0,.int .i64 0,.int .i64 0,.int .i64 0,.int .i64 0,.int .i64 0,.int .i64 0,.slice none 0 0,.slice none 0 0,.slice none 0 0,.slice none 0 0,.slice none 0 0,.slice none 0 0,.int .i64 0,.int .i64 0,.int .i64 0,.slice none 0 0,.slice none 0 0] 35 (0,0))
 b:Below w.heap.size w W
 q:w.heap.size≤p1∧p1 < p2∧p2 < p3∧p3 < p4
section
variable {s:ByteArray} {n:Nat} {a:Array Value} {w W W':World} {p1 p2 p3 p4:Nat} {st:IS} {pc:ByteArray} {A:Option Addr} {ln c:Nat} {k m f d:Value}
theorem ThF.lt (h:ThF s n a w p1 p2 p3 p4 st pc A ln c k m f d W):p4 < W.heap.size:=qaa h.z
theorem ThF.below (h:ThF s n a w p1 p2 p3 p4 st pc A ln c k m f d W) (hb:Below W.heap.size W W'):ThF s n a w p1 p2 p3 p4 st pc A ln c k m f d W' :=
 ⟨(hb.block _ (qaa h.x)).trans h.x,(hb.block _ (qaa h.r)).trans h.r,(hb.block _ (qaa h.y)).trans h.y,(hb.block _ (qaa h.z)).trans h.z,qac h.b hb,h.q⟩
theorem ThF.grown {g:Option Nat} (h:ThF s n a w p1 p2 p3 p4 st pc A ln c k m f d W) (hg:W.grownBy W' g) (ho:∀ x,g=some x→p4 < x):ThF s n a w p1 p2 p3 p4 st pc A ln c k m f d W':=by
 have q:=h.q
 refine ⟨qcv hg h.x ?_,qcv hg h.r ?_,qcv hg h.y ?_,qcv hg h.z ?_,h.b.grown hg h.b.size (fun x hx=>by have:=ho x hx;omega),q⟩
 all_goals (intro e;have:=ho _ e;omega)
theorem ThF.set (h:ThF s n a w p1 p2 p3 p4 st pc A ln c k m f d W) (st':IS) (pc':ByteArray) (A':Option Addr) (n' c':Nat):ThF s n a w p1 p2 p3 p4 st' pc' A' n' c' k m f d (W.setRow p1 (dI s st' pc' (.slice A' n' c'))):=by
 have q:=h.q
 exact ⟨setRow_heap _ _ _ _ _ _ h.x,(setRow_other _ _ _ _ (by omega)).trans h.r,(setRow_other _ _ _ _ (by omega)).trans h.y,(setRow_other _ _ _ _ (by omega)).trans h.z,qbx h.b q.1 _,q⟩
theorem ThF.setk (h:ThF s n a w p1 p2 p3 p4 st pc A ln c k m f d W) (u:Value):ThF s n a w p1 p2 p3 p4 st pc A ln c u m f d (W.setCell ⟨p2,9,none⟩ u):=by
 have q:=h.q
 exact ⟨(Below.heap_setCell _ _ _ _ (by show _≠p2;omega)).trans h.x,qaj h.r 9 u,(Below.heap_setCell _ _ _ _ (by show _≠p2;omega)).trans h.y,(Below.heap_setCell _ _ _ _ (by show _≠p2;omega)).trans h.z,h.b.setCell (p:=⟨p2,9,none⟩) (by show _≤p2;omega) u,q⟩
theorem ThF.setm (h:ThF s n a w p1 p2 p3 p4 st pc A ln c k m f d W) (u:Value):ThF s n a w p1 p2 p3 p4 st pc A ln c k u f d (W.setCell ⟨p2,10,none⟩ u):=by
 have q:=h.q
 exact ⟨(Below.heap_setCell _ _ _ _ (by show _≠p2;omega)).trans h.x,qaj h.r 10 u,(Below.heap_setCell _ _ _ _ (by show _≠p2;omega)).trans h.y,(Below.heap_setCell _ _ _ _ (by show _≠p2;omega)).trans h.z,h.b.setCell (p:=⟨p2,10,none⟩) (by show _≤p2;omega) u,q⟩
theorem ThF.setf (h:ThF s n a w p1 p2 p3 p4 st pc A ln c k m f d W) (u:Value):ThF s n a w p1 p2 p3 p4 st pc A ln c k m u d (W.setCell ⟨p2,11,none⟩ u):=by
 have q:=h.q
 exact ⟨(Below.heap_setCell _ _ _ _ (by show _≠p2;omega)).trans h.x,qaj h.r 11 u,(Below.heap_setCell _ _ _ _ (by show _≠p2;omega)).trans h.y,(Below.heap_setCell _ _ _ _ (by show _≠p2;omega)).trans h.z,h.b.setCell (p:=⟨p2,11,none⟩) (by show _≤p2;omega) u,q⟩
theorem ThF.setd (h:ThF s n a w p1 p2 p3 p4 st pc A ln c k m f d W) (u:Value):ThF s n a w p1 p2 p3 p4 st pc A ln c k m f u (W.setCell ⟨p2,12,none⟩ u):=by
 have q:=h.q
 exact ⟨(Below.heap_setCell _ _ _ _ (by show _≠p2;omega)).trans h.x,qaj h.r 12 u,(Below.heap_setCell _ _ _ _ (by show _≠p2;omega)).trans h.y,(Below.heap_setCell _ _ _ _ (by show _≠p2;omega)).trans h.z,h.b.setCell (p:=⟨p2,12,none⟩) (by show _≤p2;omega) u,q⟩
theorem ThF.cells (h:ThF s n a w p1 p2 p3 p4 st pc A ln c k m f d W):qgm W p1 6=true∧rowAt W p1=dI s st pc (.slice A ln c)∧W.cell? ⟨p1,3,none⟩=some (.int .i64 (st.r.e:Int))∧W.cell? ⟨p1,4,none⟩=some (.slice A ln c)∧W.cell? ⟨p2,0,none⟩=some (.int .i64 (n:Int)) :=
 ⟨qav h.x rfl,qbh h.x,(qab h.x 3).trans rfl,(qab h.x 4).trans rfl,(qab h.r 0).trans rfl⟩
theorem ThF.cells2 (h:ThF s n a w p1 p2 p3 p4 st pc A ln c k m f d W):W.cell? ⟨p2,9,none⟩=some k∧W.cell? ⟨p2,10,none⟩=some m∧W.cell? ⟨p2,11,none⟩=some f∧W.cell? ⟨p2,12,none⟩=some d :=
 ⟨(qab h.r 9).trans rfl,(qab h.r 10).trans rfl,(qab h.r 11).trans rfl,(qab h.r 12).trans rfl⟩
theorem ThF.froz (h:ThF s n a w p1 p2 p3 p4 st pc A ln c k m f d W):W.frozen? ⟨p2,9,none⟩=false∧W.frozen? ⟨p2,10,none⟩=false∧W.frozen? ⟨p2,11,none⟩=false∧W.frozen? ⟨p2,12,none⟩=false∧p2 < W.heap.size:=⟨Lib.frozen_of_heap h.r 9,Lib.frozen_of_heap h.r 10,Lib.frozen_of_heap h.r 11,Lib.frozen_of_heap h.r 12,qaa h.r⟩
end
theorem hR_one {n:Nat} {a:Array Value} {A1 A2 A3 A4:Option Addr} {n1 n2 n3 n4 c1 c2 c3 c4:Nat} (h:∀ i:Nat,(a[i]!).oneCell'=true):qbw (hR n a (.slice A1 n1 c1) (.slice A2 n2 c2) (.slice A3 n3 c3) (.slice A4 n4 c4))=true:=by
 have h1:∀ A n c,(Value.slice A n c).oneCell'=true:=fun _ _ _=>rfl
 have h2:∀ k x,(Value.int k x).oneCell'=true:=fun _ _=>rfl
 simp [qbw,hR,h,h1,h2]
def kdR:KD (Int×Int) where
 en:=encR
 k:=2
 rd _ _:=True
 rw _ _:=False
 hk _:=rfl
 h1 _:=by intro u hu;simp [encR] at hu;rcases hu with rfl | rfl <;> rfl
 lt _ hb:=hb.elim
 keep _ _ _:=trivial
theorem arr6 {a:Array Value} (h:a.size=6):∃ i0 i1 i2 i3 i4 i5,a=#[i0,i1,i2,i3,i4,i5]:=by
 obtain ⟨l⟩:=a
 match l,h with
 | [i0,i1,i2,i3,i4,i5],_=>exact ⟨i0,i1,i2,i3,i4,i5,rfl⟩
theorem arr18 {a:Array Value} (h:a.size=18):∃ r0 r1 r2 r3 r4 r5 r6 r7 r8 r9 r10 r11 r12 r13 r14 r15 r16 r17,a=#[r0,r1,r2,r3,r4,r5,r6,r7,r8,r9,r10,r11,r12,r13,r14,r15,r16,r17]:=by
 obtain ⟨l⟩:=a
 match l,h with
 | [r0,r1,r2,r3,r4,r5,r6,r7,r8,r9,r10,r11,r12,r13,r14,r15,r16,r17],_=>exact ⟨r0,r1,r2,r3,r4,r5,r6,r7,r8,r9,r10,r11,r12,r13,r14,r15,r16,r17,rfl⟩
theorem len1 {l:List Nat} (h:l.length=1):∃ a,l=[a]:=by
 match l,h with
 | [a],_=>exact ⟨a,rfl⟩
theorem manyR_one {α:Type} {f:IS→IS×α} {s0 s1:IS} {x0:α} (e0:qan f 1 s0=(s1,[x0])):f s0=(s1,x0):=by
 simp only [qan] at e0
 injection e0 with h1 h2
 injection h2 with h2 _
 exact Prod.ext h1 h2
theorem RdKE.of_rows {y:Int} {m:Nat} {r a:RW (Int×Int)} {W:World} (h1:RdX kdR m r W) (h2:RdX kdA m a W):RdKE W ⟨y,r,a⟩:=⟨⟨h1.rd,h1.no⟩,⟨h2.rd,h2.no⟩⟩
def DHeP (s:ByteArray) (n:Nat) (a:Array Value) (st:IS) (gk:List KnT) (gm:List GS) (gf:GS) (gd:List GS) (w:World) (e:Ending) (w':World):Prop :=
 ∃ (pk:ByteArray) (A:Option Addr) (ln c:Nat) (xk:RW KE) (xm:RW (RW Int)) (xf:RW Int) (xd:RW (RW (Int×Int))),
  e=.returned (.tuple #[.agg (dI s st pk (.slice A ln c)),.agg (hR n a (.slice xk.A xk.z.size xk.c) (.slice xm.A xm.z.size xm.c) (.slice xf.A xf.z.size xf.c) (.slice xd.A xd.z.size xd.c))]) ∧
  RdX kdK w.heap.size xk w'∧RdX kdI w.heap.size xm w'∧RdN0 w.heap.size xf w'∧RdX kdD w.heap.size xd w' ∧
  (st.r.e=0→(xk.z.toList.map knM=gk∧∀ y ∈ xk.z.toList,nnK y)∧(xm.z.toList.map (fun x=>intM x.z)=gm∧∀ y ∈ xm.z.toList,nnI y.z)∧(intM xf.z=gf∧nnI xf.z)∧(xd.z.toList.map (fun x=>qbg x.z)=gd∧∀ y ∈ xd.z.toList,nnP y.z))∧Below w.heap.size w w'
theorem RdN0.of_row {l:List Nat} {A:Option Addr} {c m:Nat} {W:World} (h:RdI W.heap.size W A (ints l)) (h1:(A=none→c=0)∧l.length≤c) (h2:Fr m A):RdN0 m ⟨A,c,ints l⟩ W:=⟨h,by rw [qao];exact h1.2,h1.1,h2⟩
attribute [local go_sem ↓] qfe qej qbc qba
attribute [local go_sem] qfq qaq qby qbk qcn qbt qbq hR_size
set_option maxHeartbeats 16000000 in
theorem qyd (s pc:ByteArray) (st st1 st2 st3 st4:IS) (A0:Option Addr) (n0 c0 n:Nat) (a:Array Value) (gk:List KnT) (gm:List GS) (gf:GS) (gd:List GS) (w:World) (hp:st.r.pos≤s.size) (hs:s.size≤1000000) (hn:n≤1000) (h1a:∀ i:Nat,(a[i]!).oneCell'=true)
 (e1:(knC.vec n).rd s.data.toList st=(st1,gk)) (e2:((rowC 1 (by decide)).vec n).rd s.data.toList st1=(st2,gm)) (e3:(rowC 1 (by decide)).rd s.data.toList st2=(st3,gf)) (e4:((rowC 2 (by decide)).vec n).rd s.data.toList st3=(st4,gd)) :
 Calls Tryz.prog 46 #[.agg (dI s st pc (.slice A0 n0 c0)),.agg (hR n a (.slice none 0 0) (.slice none 0 0) (.slice none 0 0) (.slice none 0 0))] w fun e w'=>DHeP s n a st4 gk gm gf gd w e w':=by
 obtain ⟨i0,hi0,hz0,hz1,hz2⟩:=info_parts qpl
 obtain ⟨j0,hj0,hy0,hy1,hy2⟩:=info_parts qpa
 obtain ⟨k0,hk0,hv0,hv1,hv2⟩:=info_parts qmk
 have hsl:s.data.toList.length=s.size:=by simp
 have HP0:Hid (st.r.pos≤s.data.toList.length):=by rw [hsl];exact hp
 have HP1:Hid (st1.r.pos≤s.data.toList.length):=by have:=(knC.vec n).far s.data.toList st HP0.out;rw [e1] at this;exact this
 have HP2:Hid (st2.r.pos≤s.data.toList.length):=by have:=((rowC 1 (by decide)).vec n).far s.data.toList st1 HP1.out;rw [e2] at this;exact this
 have HP3:Hid (st3.r.pos≤s.data.toList.length):=by have:=(rowC 1 (by decide)).far s.data.toList st2 HP2.out;rw [e3] at this;exact this
 have B3:Hid (st4.r.e=0→st3.r.e=0):=qbn e4
 have B2:Hid (st4.r.e=0→st2.r.e=0):=fun h0=>qbn e3 (B3.out h0)
 have B1:Hid (st4.r.e=0→st1.r.e=0):=fun h0=>qbn e2 (B2.out h0)
 have E1:Hid (qan (knC.rd s.data.toList) n st=(st1,gk)):=e1
 have E2:Hid (qan ((rowC 1 (by decide)).rd s.data.toList) n st1=(st2,gm)):=e2
 have E3:=hI e3
 have E4:Hid (qan ((rowC 2 (by decide)).rd s.data.toList) n st3=(st4,gd)):=e4
 have HNM:Hid (∀ (pc:ByteArray) (x:IS) A n c W,x.r.pos≤s.data.toList.length→Calls Tryz.prog 42 #[.agg (dI s x pc (.slice A n c)),.int .i64 1,.int .i64 1000000] W fun e w'=>qiz s 1 (qan (nC.rd s.data.toList) 1 x) W e w'):=fun pc x A n c W h=>qep s pc x A n c 1 1000000 (by decide) W (by rw [←hsl];exact h) hs (by decide)
 have HRF:Hid (∀ x:IS,(rowR s.data.toList 1000 x.r).2.length≤1000):=fun x=>qhe s.data.toList 1000 x.r (by decide)
 have HR1:Hid (∀ (pc:ByteArray) (x:IS) A n c W,x.r.pos≤s.data.toList.length→Calls Tryz.prog 44 #[.agg (dI s x pc (.slice A n c)),.int .i64 1] W fun e w'=>qhq 1 (by decide) s x W e w'):=fun pc x A n c W h=>drow1_any s pc x A n c W (by rw [←hsl];exact h) hs
 have HR2:Hid (∀ (pc:ByteArray) (x:IS) A n c W,x.r.pos≤s.data.toList.length→Calls Tryz.prog 44 #[.agg (dI s x pc (.slice A n c)),.int .i64 2] W fun e w'=>qhq 2 (by decide) s x W e w'):=fun pc x A n c W h=>qqp s pc x A n c W (by rw [←hsl];exact h) hs
 have HA:=hI h1a
 have HNN:=hI hn
 clear e1 e2 e3 e4 hp hs hsl h1a
 obtain ⟨X0,hX0⟩:∃ y,y=dI s st pc (.slice A0 n0 c0):=⟨_,rfl⟩
 obtain ⟨Y0,hY0⟩:∃ y,y=hR n a (.slice none 0 0) (.slice none 0 0) (.slice none 0 0) (.slice none 0 0):=⟨_,rfl⟩
 rw [←hX0,←hY0]
 have HX0:=hI hX0
 have HY0:=hI hY0
 have hXs:X0.size=6:=by rw [hX0];rfl
 have hYs:Y0.size=18:=by rw [hY0];rfl
 clear hX0 hY0
 go_enter Tryz.func46,Tryz.ntmps46
 go_upto_region 1 with (fail)
 obtain ⟨wI,hwI⟩:∃ W,W=((((w.alloc (.cells X0 98)).alloc (.cells Y0 35)).alloc (.cells #[.string ⟨#[]⟩,.int .i64 0,.string ⟨#[]⟩,.int .i64 0,.slice none 0 0,.bool false] 98)).alloc (.cells #[.int .i64 0,.int .i64 0,.int .i64 0,.int .i64 0,.int .i64 0,.int .i64 0,.int .i64 0,.slice none 0 0,.slice none 0 0,.slice none 0 0,.slice none 0 0,.slice none 0 0,.slice none 0 0,.int .i64 0,.int .i64 0,.int .i64 0,.slice none 0 0,.slice none 0 0] 35)):=⟨_,rfl⟩
 obtain ⟨p1,hp1⟩:∃ p,p=w.heap.size:=⟨_,rfl⟩
 obtain ⟨p2,hp2⟩:∃ p,p=w.heap.size + 1:=⟨_,rfl⟩
 obtain ⟨p3,hp3⟩:∃ p,p=w.heap.size + 1 + 1:=⟨_,rfl⟩
 obtain ⟨p4,hp4⟩:∃ p,p=w.heap.size + 1 + 1 + 1:=⟨_,rfl⟩
 have F0:Hid (ThF s n a w p1 p2 p3 p4 st pc A0 n0 c0 (.slice none 0 0) (.slice none 0 0) (.slice none 0 0) (.slice none 0 0) wI):=by
  show ThF _ _ _ _ _ _ _ _ _ _ _ _ _ _ _ _ _ _
  rw [hwI,hp1,hp2,hp3,hp4,HX0.out,HY0.out]
  exact ⟨qay (qay (qay (qah w _) _) _) _,qay (qay (qcg w _ _) _) _,qay (qgd w _ _ _) _,qia w _ _ _ _,qad (qad (qad (bel1 w _) _) _) _,Nat.le_refl _,Nat.lt_succ_self _,Nat.lt_succ_self _,Nat.lt_succ_self _⟩
 rw [←hwI,←hp4,←hp3,←hp2,←hp1]
 clear hwI hp1 hp2 hp3 hp4 hXs hYs HX0 HY0
 have LM:Hid (p4 + 1≤wI.heap.size):=by have:=F0.out.lt;exact this
 go_upto_block 0 with fail
 go_cut [6,7] from 10 to 46 (fun _ _ wx=>∃ (z:Array (KE)) (v:Value) (pc:ByteArray) (A:Option Addr) (ln c:Nat),Hid (z.size≤n∧(z.size=n∨(qan (knC.rd s.data.toList) z.size st).1.r.e≠0))∧Hid (ThF s n a w p1 p2 p3 p4 (qan (knC.rd s.data.toList) z.size st).1 pc A ln c v (.slice none 0 0) (.slice none 0 0) (.slice none 0 0) wx)∧Hid (DmI kdK knC (knM) (nnK) 81 (p4 + 1) s st z v wx))
 case first =>
  go_wp2_with fail
  go_loopw [6] (fun i W=>∃ (k:Nat) (z:Array (KE)) (v:Value) (pc:ByteArray) (A:Option Addr) (ln c:Nat),i=.int .i64 (k:Int)∧k≤n∧Hid (z.size=k)∧Hid (ThF s n a w p1 p2 p3 p4 (qan (knC.rd s.data.toList) z.size st).1 pc A ln c v (.slice none 0 0) (.slice none 0 0) (.slice none 0 0) W)∧Hid (DmI kdK knC (knM) (nnK) 81 (p4 + 1) s st z v W)) (fun i _=>n - (intOf i).toNat)
  case atStart=>exact ⟨0,#[],.slice none 0 0,_,_,_,_,rfl,Nat.zero_le _,hI rfl,F0,hI DmI.start⟩
  case round=>as_aux_lemma =>
   obtain ⟨k,z,v,pk,Ak,nk,ck,rfl,hk,HZ,HF,HDm⟩:=hrel
   obtain ⟨stk,hstk⟩:∃ e,(qan (knC.rd s.data.toList) z.size st).1=e:=⟨_,rfl⟩
   have HSK:=hI hstk
   rw [hstk] at HF
   have HPS:Hid (stk.r.pos≤s.data.toList.length):=by have:=qdy (C:=knC) (k:=z.size) HP0.out;rw [hstk] at this;exact this
   clear hstk
   obtain ⟨x1,x2,z3,z4,y0⟩:=HF.out.cells
   by_cases h0:k < n
   ·have kz:(k:Int) < (n:Int):=by omega
    by_cases hE:stk.r.e=0
    ·have z3':wr.cell? ⟨p1,3,none⟩=some (.int .i64 0):=by rw [z3,hE];rfl
     clear z3
     rcases hx:qan (nC.rd s.data.toList) 1 stk with ⟨sta,ln⟩
     obtain ⟨y,rfl⟩:=len1 (l:=ln) (by have:=qet (nC.rd s.data.toList) 1 stk;rw [hx] at this;exact this)
     rcases hr1:(rowC 2 (by decide)).rd s.data.toList sta with ⟨stb,g1⟩
     rcases hr2:(rowC 2 (by decide)).rd s.data.toList stb with ⟨stc,g2⟩
     have HX:Hid (knC.rd s.data.toList stk=(stc,(y,(g1,g2)))):=qcb (manyR_one hx) (qcb hr1 hr2)
     have M1:=hI (qfs (qdf hr1))
     have M2:=hI (qfs (qdf hr2))
     have HNk:Hid (∀ W,Calls Tryz.prog 42 #[.agg (dI s stk pk (.slice Ak nk ck)),.int .i64 1,.int .i64 1000000] W fun e w'=>qiz s 1 (sta,[y]) W e w'):=fun W=>by
      have:=HNM.out pk stk Ak nk ck W HPS.out
      rw [hx] at this
      exact this
     have HPA:Hid (sta.r.pos≤s.data.toList.length):=by have:=qdy (C:=nC) (k:=1) HPS.out;rw [hx] at this;exact this
     have HPB:Hid (stb.r.pos≤s.data.toList.length):=by have:=(rowC 2 (by decide)).far s.data.toList sta HPA.out;rw [hr1] at this;exact this
     obtain ⟨l1,hl1⟩:∃ y,(rowR s.data.toList 1000 sta.r).2=y:=⟨_,rfl⟩
     obtain ⟨l2,hl2⟩:∃ y,(rowR s.data.toList 1000 stb.r).2=y:=⟨_,rfl⟩
     have hll1:l1.length≤1000:=by have:=HRF.out sta;rw [hl1] at this;exact this
     have hll2:l2.length≤1000:=by have:=HRF.out stb;rw [hl2] at this;exact this
     have HG1:Hid (grp 2 (l1.length / 2) l1=g1):=by
      have:((rowC 2 (by decide)).rd s.data.toList sta).2=g1:=by rw [hr1]
      show _=_
      rw [←this,←hl1]
      rfl
     have HG2:Hid (grp 2 (l2.length / 2) l2=g2):=by
      have:((rowC 2 (by decide)).rd s.data.toList stb).2=g2:=by rw [hr2]
      show _=_
      rw [←this,←hl2]
      rfl
     have HRa:Hid (∀ (pc:ByteArray) A n c W,Calls Tryz.prog 44 #[.agg (dI s sta pc (.slice A n c)),.int .i64 2] W fun e w'=>∃ pc' A' c',e=.returned (.agg (dI s stb pc' (.slice A' l1.length c')))∧RdI w'.heap.size w' A' (ints l1)∧((A'=none→c'=0)∧l1.length≤c')∧Fr W.heap.size A'∧Below W.heap.size W w'):=fun pc A n c W=>by
      have:=HR2.out pc sta A n c W HPA.out
      unfold qhq at this
      rw [hr1,hl1] at this
      exact this
     have HRb:Hid (∀ (pc:ByteArray) A n c W,Calls Tryz.prog 44 #[.agg (dI s stb pc (.slice A n c)),.int .i64 2] W fun e w'=>∃ pc' A' c',e=.returned (.agg (dI s stc pc' (.slice A' l2.length c')))∧RdI w'.heap.size w' A' (ints l2)∧((A'=none→c'=0)∧l2.length≤c')∧Fr W.heap.size A'∧Below W.heap.size W w'):=fun pc A n c W=>by
      have:=HR2.out pc stb A n c W HPB.out
      unfold qhq at this
      rw [hr2,hl2] at this
      exact this
     have hzs:z.size≤1000:=by have:=HZ.out;omega
     have LW:Hid (p4 + 1≤wr.heap.size):=by have:=HF.out.lt;exact this
     clear hx hr1 hr2 hl1 hl2 hE x1 x2 z4 y0
     have z3:=z3'
     clear z3'
     obtain ⟨x1,x2,_,z4,y0⟩:=HF.out.cells
     go_wp2_with fail
     refine (HNk.out _).mono ?_
     rintro _ w1 ⟨pc1,A1,c1,rfl,hrd,hnc,hfr,hbA⟩
     dsimp only at hrd ⊢
     clear x1 x2 z3 z4 y0 HNk hnc
     have FA:=hI (HF.out.below hbA)
     obtain ⟨x1,x2,z3,z4,y0⟩:=FA.out.cells
     have hst:=qaq w1 p1 (dI s sta pc1 (.slice A1 1 c1)) x1 (qbk _ _ _ _) (qcn _ _ _ _ _ _)
     go_upto_region 5 with (fail)
     clear hst x1 x2 z3 z4 y0
     have F2:=hI (FA.out.set sta pc1 A1 1 c1)
     have R2:=hI (RdI.set (p1:=p1) (cs:=dI s sta pc1 (.slice A1 1 c1)) hrd hfr (by have:=HF.out.q;have:=HF.out.lt;omega))
     have K2:Hid (KF (p4 + 1) wr (w1.setRow p1 (dI s sta pc1 (.slice A1 1 c1)))):=KF.ts hbA _ (by have:=HF.out.q;omega)
     obtain ⟨w2,hw2⟩:∃ W,W=w1.setRow p1 (dI s sta pc1 (.slice A1 1 c1)):=⟨_,rfl⟩
     rw [←hw2] at F2 R2 K2 ⊢
     clear hw2 hrd hfr hbA FA
     obtain ⟨b1,off,rfl,hbl,f⟩:=R2.out (by rw [qao];simp)
     have a0:=qbb (j:=0) f (by simp)
     simp only [List.getD_cons_zero,Nat.add_zero] at a0
     clear f hbl R2
     obtain ⟨x1,x2,z3,z4,y0⟩:=F2.out.cells
     go_upto_region 6 with (fail)
     clear x1 x2 z3 z4 y0 a0
     have hb3:=bel1 w2 (.cells #[.int .i64 (y:Int),.slice none 0 0,.slice none 0 0] 81)
     have F3:=hI (F2.out.below hb3)
     have K3:=hI (K2.out.trans (KF.of_below hb3))
     have P3:Hid ((w2.alloc (.cells #[.int .i64 (y:Int),.slice none 0 0,.slice none 0 0] 81)).heap[w2.heap.size]?=some (.cells #[.int .i64 (y:Int),.slice none 0 0,.slice none 0 0] 81 (0,0))):=qah w2 _
     have HPG:Hid (wr.heap.size≤w2.heap.size):=K2.out.size
     obtain ⟨w3,hw3⟩:∃ W,W=w2.alloc (.cells #[.int .i64 (y:Int),.slice none 0 0,.slice none 0 0] 81):=⟨_,rfl⟩
     obtain ⟨pg,hpg⟩:∃ p,p=w2.heap.size:=⟨_,rfl⟩
     rw [←hpg] at P3 HPG
     rw [←hw3] at F3 K3 P3
     rw [←hpg,←hw3]
     clear hw3 hpg hb3 F2 K2
     obtain ⟨x1,x2,z3,z4,y0⟩:=F3.out.cells
     go_wp2_with fail
     refine (HRa.out _ _ _ _ _).mono ?_
     rintro _ wa3 ⟨pc3,A3,c3,rfl,hrd,hnc,hfr,hbA⟩
     clear x1 x2 z3 z4 y0 HRa
     have FA:=hI (F3.out.below hbA)
     obtain ⟨x1,x2,z3,z4,y0⟩:=FA.out.cells
     have hst:=qaq wa3 p1 (dI s stb pc3 (.slice A3 l1.length c3)) x1 (qbk _ _ _ _) (qcn _ _ _ _ _ _)
     go_upto_region 7 with (fail)
     clear hst x1 x2 z3 z4 y0
     have FB:=hI (FA.out.set stb pc3 A3 l1.length c3)
     have RB:=hI (RdI.set (p1:=p1) (cs:=dI s stb pc3 (.slice A3 l1.length c3)) hrd hfr (by have:=F3.out.q;have:=F3.out.lt;omega))
     have KB:Hid (KF (p4 + 1) wr (wa3.setRow p1 (dI s stb pc3 (.slice A3 l1.length c3)))):=K3.out.trans (KF.ts hbA _ (by have:=F3.out.q;omega))
     have PB:Hid ((wa3.setRow p1 (dI s stb pc3 (.slice A3 l1.length c3))).heap[pg]?=some (.cells #[.int .i64 (y:Int),.slice none 0 0,.slice none 0 0] 81 (0,0))):=(setRow_other _ _ _ _ (by have:=F3.out.q;have:=HPG.out;have:=LW.out;omega)).trans ((hbA.block _ (qaa P3.out)).trans P3.out)
     obtain ⟨wb3,hw⟩:∃ W,W=wa3.setRow p1 (dI s stb pc3 (.slice A3 l1.length c3)):=⟨_,rfl⟩
     rw [←hw] at FB RB KB PB  ⊢
     clear hw hrd hfr hnc hbA FA F3 K3 P3
     obtain ⟨x1,x2,z3,z4,y0⟩:=FB.out.cells
     have hD:=qvj A3 c3 l1 wb3 RB.out (by omega)
     go_wp2_with fail
     refine hD.mono ?_
     rintro _ wc3 ⟨B3,d3,rfl,hrd,hcz,hno,hfr,hbA⟩
     clear hD x1 x2 z3 z4 y0
     have FC:=hI (FB.out.below hbA)
     have KC:=hI (KB.out.trans (KF.of_below hbA))
     have PC:=hI ((hbA.block _ (qaa PB.out)).trans PB.out)
     have X3:Hid (RdX kdR (pg + 1) ⟨B3,d3,qai (grp 2 (l1.length / 2) l1)⟩ wc3):=⟨hrd,hcz,hno,hfr.mono (qaa PB.out),fun i hi=>⟨trivial,fun _ hb=>hb.elim⟩⟩
     clear hrd hcz hno hfr hbA FB KB PB RB
     have g1:=(qab PC.out 1).trans rfl
     have g2:=Lib.frozen_of_heap PC.out 1
     have g3:=qaa PC.out
     go_upto_region 8 with (fail)
     clear g1 g2 g3
     have hg:wc3.grownBy (wc3.setCell ⟨pg,1,none⟩ (.slice B3 (qai (grp 2 (l1.length / 2) l1)).size d3)) (some pg):=qal (World.grownBy.refl _ _) rfl _
     have FD:=hI (FC.out.grown hg (fun x e=>by injection e with e;have:=HPG.out;have:=LW.out;omega))
     have KD':=hI (KC.out.ext hg.size (fun i i1 i2=>hg.block i (Nat.lt_of_lt_of_le i2 KC.out.size) (by intro e;injection e with e;have:=HPG.out;omega)))
     have PD:=hI (qaj PC.out 1 (.slice B3 (qai (grp 2 (l1.length / 2) l1)).size d3))
     have X3:=hI (X3.out.kf (KF.of_grown hg (Nat.lt_succ_self _)))
     obtain ⟨wd3,hw⟩:∃ W,W=wc3.setCell ⟨pg,1,none⟩ (.slice B3 (qai (grp 2 (l1.length / 2) l1)).size d3):=⟨_,rfl⟩
     rw [←hw] at FD KD' PD X3 ⊢
     clear hw hg FC KC PC
     have F4:=FD
     have K4:=KD'
     have P4:Hid (wd3.heap[pg]?=some (.cells #[.int .i64 (y:Int),.slice B3 (qai (grp 2 (l1.length / 2) l1)).size d3,.slice none 0 0] 81 (0,0))):=PD.out
     obtain ⟨w4,hw4⟩:∃ W,W=wd3:=⟨_,rfl⟩
     rw [←hw4] at F4 K4 P4 X3 ⊢
     clear hw4 FD KD' PD
     rw [HG1.out] at X3 P4
     obtain ⟨x1,x2,z3,z4,y0⟩:=F4.out.cells
     go_wp2_with fail
     refine (HRb.out _ _ _ _ _).mono ?_
     rintro _ wa4 ⟨pc4,A4,c4,rfl,hrd,hnc,hfr,hbA⟩
     clear x1 x2 z3 z4 y0 HRb
     have FA:=hI (F4.out.below hbA)
     obtain ⟨x1,x2,z3,z4,y0⟩:=FA.out.cells
     have hst:=qaq wa4 p1 (dI s stc pc4 (.slice A4 l2.length c4)) x1 (qbk _ _ _ _) (qcn _ _ _ _ _ _)
     go_upto_region 9 with (fail)
     clear hst x1 x2 z3 z4 y0
     have FB:=hI (FA.out.set stc pc4 A4 l2.length c4)
     have RB:=hI (RdI.set (p1:=p1) (cs:=dI s stc pc4 (.slice A4 l2.length c4)) hrd hfr (by have:=F4.out.q;have:=F4.out.lt;omega))
     have KB:Hid (KF (p4 + 1) wr (wa4.setRow p1 (dI s stc pc4 (.slice A4 l2.length c4)))):=K4.out.trans (KF.ts hbA _ (by have:=F4.out.q;omega))
     have PB:Hid ((wa4.setRow p1 (dI s stc pc4 (.slice A4 l2.length c4))).heap[pg]?=some (.cells #[.int .i64 (y:Int),.slice B3 (qai g1).size d3,.slice none 0 0] 81 (0,0))):=(setRow_other _ _ _ _ (by have:=F4.out.q;have:=HPG.out;have:=LW.out;omega)).trans ((hbA.block _ (qaa P4.out)).trans P4.out)
     have X3:=hI (X3.out.kf (KF.ts (m:=pg + 1) (p1:=p1) hbA (dI s stc pc4 (.slice A4 l2.length c4)) (by have:=F4.out.q;have:=HPG.out;have:=LW.out;omega)))
     obtain ⟨wb4,hw⟩:∃ W,W=wa4.setRow p1 (dI s stc pc4 (.slice A4 l2.length c4)):=⟨_,rfl⟩
     rw [←hw] at FB RB KB PB X3 ⊢
     clear hw hrd hfr hnc hbA FA F4 K4 P4
     obtain ⟨x1,x2,z3,z4,y0⟩:=FB.out.cells
     have hD:=qvi A4 c4 l2 wb4 RB.out (by omega)
     go_wp2_with fail
     refine hD.mono ?_
     rintro _ wc4 ⟨B4,d4,rfl,hrd,hcz,hno,hfr,hbA⟩
     clear hD x1 x2 z3 z4 y0
     have FC:=hI (FB.out.below hbA)
     have KC:=hI (KB.out.trans (KF.of_below hbA))
     have PC:=hI ((hbA.block _ (qaa PB.out)).trans PB.out)
     have X4:Hid (RdX kdA (pg + 1) ⟨B4,d4,qai (grp 2 (l2.length / 2) l2)⟩ wc4):=⟨hrd,hcz,hno,hfr.mono (qaa PB.out),fun i hi=>⟨trivial,fun _ hb=>hb.elim⟩⟩
     have X3:=hI (X3.out.kf (KF.of_below hbA))
     clear hrd hcz hno hfr hbA FB KB PB RB
     have g1:=(qab PC.out 2).trans rfl
     have g2:=Lib.frozen_of_heap PC.out 2
     have g3:=qaa PC.out
     go_upto_region 10 with (fail)
     clear g1 g2 g3
     have hg:wc4.grownBy (wc4.setCell ⟨pg,2,none⟩ (.slice B4 (qai (grp 2 (l2.length / 2) l2)).size d4)) (some pg):=qal (World.grownBy.refl _ _) rfl _
     have FD:=hI (FC.out.grown hg (fun x e=>by injection e with e;have:=HPG.out;have:=LW.out;omega))
     have KD':=hI (KC.out.ext hg.size (fun i i1 i2=>hg.block i (Nat.lt_of_lt_of_le i2 KC.out.size) (by intro e;injection e with e;have:=HPG.out;omega)))
     have PD:=hI (qaj PC.out 2 (.slice B4 (qai (grp 2 (l2.length / 2) l2)).size d4))
     have X3:=hI (X3.out.kf (KF.of_grown hg (Nat.lt_succ_self _)))
     have X4:=hI (X4.out.kf (KF.of_grown hg (Nat.lt_succ_self _)))
     obtain ⟨wd4,hw⟩:∃ W,W=wc4.setCell ⟨pg,2,none⟩ (.slice B4 (qai (grp 2 (l2.length / 2) l2)).size d4):=⟨_,rfl⟩
     rw [←hw] at FD KD' PD X3 X4 ⊢
     clear hw hg FC KC PC
     have F5:=FD
     have K5:=KD'
     have P5:Hid (wd4.heap[pg]?=some (.cells #[.int .i64 (y:Int),.slice B3 (qai g1).size d3,.slice B4 (qai (grp 2 (l2.length / 2) l2)).size d4] 81 (0,0))):=PD.out
     obtain ⟨w5,hw5⟩:∃ W,W=wd4:=⟨_,rfl⟩
     rw [←hw5] at F5 K5 P5 X3 X4 ⊢
     clear hw5 FD KD' PD
     rw [HG2.out] at X4 P5
     have HXK:Hid (kdK.rd w5 ⟨(y:Int),⟨B3,d3,qai g1⟩,⟨B4,d4,qai g2⟩⟩):=RdKE.of_rows X3.out X4.out
     have HXB:Hid (∀ blk,kdK.rw (⟨(y:Int),⟨B3,d3,qai g1⟩,⟨B4,d4,qai g2⟩⟩:KE) blk→wr.heap.size≤blk):=fun blk hb=>by
      have:=HPG.out
      rcases hb with hb | hb
      ·have:=hb.fr X3.out.fr;omega
      ·have:=hb.fr X4.out.fr;omega
     obtain ⟨x1,x2,z3,z4,y0⟩:=F5.out.cells
     obtain ⟨y9,_⟩:=F5.out.cells2
     obtain ⟨f9,_,_,_,hl⟩:=F5.out.froz
     have g0:=(qab P5.out 0).trans rfl
     have g1':=(qab P5.out 1).trans rfl
     have g2':=(qab P5.out 2).trans rfl
     have hown2:=qbj (HDm.out.kf K5.out).own (bel1 w5 (.cells #[.int .i64 (y:Int),.slice B3 (qai g1).size d3,.slice B4 (qai g2).size d4] 81))
     go_wp2_with (at_builtin;refine wpList_append_own_at _ rfl _ _ 24 rfl (p4 + 1) 81 i0 (.agg #[.int .i64 0,.slice none 0 0,.slice none 0 0]) 3 56 Tryz.underlying24 hi0 hz0 hz1 hz2 rfl (by decide) _ _ _ rfl hown2 ⟨w5.heap.size,0,none⟩ 1 1 [.int .i64 (y:Int),.slice B3 (qai g1).size d3,.slice B4 (qai g2).size d4] rfl rfl (qcl w5 _ _) (by simp [Value.oneCell']) (by unfold maxLen;omega) (by omega) (by have:=K5.out.size;have:=LW.out;simp;omega) ?_;intro v' wE hown3 hgrow _ hat;obtain ⟨Av,cv,rfl⟩:=qdo hown3;have F6:=hI ((F5.out.below (bel1 w5 _)).grown hgrow (fun x e=>HDm.out.oldB x e));obtain ⟨k1,k2,k3,k4,k5⟩:=F6.out.froz;obtain ⟨j1,j2,j3,j4⟩:=F6.out.cells2)
     go_roundw
     case rel =>
      have hb:=bel1 w5 (.cells #[.int .i64 (y:Int),.slice B3 (qai g1).size d3,.slice B4 (qai g2).size d4] 81)
      refine ⟨k + 1,z.push ⟨(y:Int),⟨B3,d3,qai g1⟩,⟨B4,d4,qai g2⟩⟩,.slice Av (z.size + 1) cv,pc4,A4,l2.length,c4,by go_num,by omega,hI (by rw [Array.size_push,HZ.out]),?_,?_⟩
      ·have e:(qan (knC.rd s.data.toList) (z.push ⟨(y:Int),⟨B3,d3,qai g1⟩,⟨B4,d4,qai g2⟩⟩:Array KE).size st).1=stc:=by
        rw [Array.size_push,qcm,HSK.out,HX.out]
       rw [e]
       exact hI (F6.out.setk _)
      ·refine hI ((HDm.out.step (K5.out.trans (KF.of_below hb)) (kdK.keep HXK.out hb.size (fun blk h=>hb.block blk (kdK.lt HXK.out h))) HXB.out LW.out ?_ ?_ hown3 hgrow (fun _=>hat.imp id (fun e=>⟨_,e,Nat.le_refl _⟩))).kf (KF.of_setCell (by have:=HF.out.q;show p2 < p4 + 1;omega) _ _))
       ·rw [HSK.out,HX.out]
        show (_,(qbg (qai g1),qbg (qai g2)))=_
        rw [M1.out.1,M2.out.1]
        rfl
       ·exact ⟨by simp only;omega,M1.out.2,M2.out.2⟩
     case measure=>simp [intOf];omega
    ·have HE:=hI hE
     obtain ⟨ek,hek⟩:∃ e,stk.r.e=e:=⟨_,rfl⟩
     rw [hek] at z3 hE
     have hne:((ek:Int) == 0)=false:=by simpa using hE
     clear hek hE x1 x2 z4
     go_wp2
     go_meet
     exact ⟨z,v,pk,Ak,nk,ck,hI ⟨by have:=HZ.out;omega,Or.inr (by rw [HSK.out];exact HE.out)⟩,by rw [HSK.out];exact HF,HDm⟩
   ·have kz:decide ((k:Int) < (n:Int))=false:=decide_eq_false (by omega)
    clear x1 x2 z3 z4
    go_wp2
    go_meet
    exact ⟨z,v,pk,Ak,nk,ck,hI ⟨by have:=HZ.out;omega,Or.inl (by have:=HZ.out;omega)⟩,by rw [HSK.out];exact HF,HDm⟩
 case rest=>as_aux_lemma =>
  obtain ⟨z,v,pk,Ak,nk,ck,HK,HF,HDm⟩:=hcut
  obtain ⟨hf1,hf2⟩:=HDm.out.fin HK.out.1 HK.out.2 E1.out
  rw [hf1] at HF
  obtain ⟨xk,hx1,hx2,hx3⟩:=DmI.done HDm.out
  have X_xk:=hI hx3
  have V_xk:=hI hf2
  rw [←hx2] at V_xk
  subst hx1
  clear hf1 hf2 HK hx2 hx3
  obtain ⟨wJ,hwJ⟩:∃ W,W=wc:=⟨_,rfl⟩
  rw [←hwJ] at HF HDm X_xk ⊢
  clear hwJ HDm
  have FJ:=HF
  clear HF
  go_upto_block 2 with fail
  go_cut [8] from 47 to 67 (fun _ wx=>∃ (z:Array (RW Int)) (v:Value) (pc:ByteArray) (A:Option Addr) (ln c:Nat),Hid (z.size≤n∧(z.size=n∨(qan ((rowC 1 (by decide)).rd s.data.toList) z.size st1).1.r.e≠0))∧Hid (ThF s n a w p1 p2 p3 p4 (qan ((rowC 1 (by decide)).rd s.data.toList) z.size st1).1 pc A ln c (.slice xk.A xk.z.size xk.c) v (.slice none 0 0) (.slice none 0 0) wx)∧Hid (DmI kdI (rowC 1 (by decide)) (fun x:RW Int=>intM x.z) (fun x:RW Int=>nnI x.z) 26 wJ.heap.size s st1 z v wx)∧Hid (KF (p4 + 1) wJ wx))
  case first =>
   go_wp2_with fail
   go_loopw [8] (fun i W=>∃ (k:Nat) (z:Array (RW Int)) (v:Value) (pc:ByteArray) (A:Option Addr) (ln c:Nat),i=.int .i64 (k:Int)∧k≤n∧Hid (z.size=k)∧Hid (ThF s n a w p1 p2 p3 p4 (qan ((rowC 1 (by decide)).rd s.data.toList) z.size st1).1 pc A ln c (.slice xk.A xk.z.size xk.c) v (.slice none 0 0) (.slice none 0 0) W)∧Hid (DmI kdI (rowC 1 (by decide)) (fun x:RW Int=>intM x.z) (fun x:RW Int=>nnI x.z) 26 wJ.heap.size s st1 z v W)∧Hid (KF (p4 + 1) wJ W)) (fun i _=>n - (intOf i).toNat)
   case atStart=>exact ⟨0,#[],.slice none 0 0,_,_,_,_,rfl,Nat.zero_le _,hI rfl,FJ,hI DmI.start,hI (KF.refl _ _)⟩
   case round=>as_aux_lemma =>
    obtain ⟨k,z,v,pk,Ak,nk,ck,rfl,hk,HZ,HF,HDm,HKJ⟩:=hrel
    obtain ⟨stk,hstk⟩:∃ e,(qan ((rowC 1 (by decide)).rd s.data.toList) z.size st1).1=e:=⟨_,rfl⟩
    have HSK:=hI hstk
    rw [hstk] at HF
    have HPS:Hid (stk.r.pos≤s.data.toList.length):=by have:=qdy (C:=(rowC 1 (by decide))) (k:=z.size) HP1.out;rw [hstk] at this;exact this
    clear hstk
    obtain ⟨x1,x2,z3,z4,y0⟩:=HF.out.cells
    by_cases h0:k < n
    ·have kz:(k:Int) < (n:Int):=by omega
     by_cases hE:stk.r.e=0
     ·have z3':wr.cell? ⟨p1,3,none⟩=some (.int .i64 0):=by rw [z3,hE];rfl
      clear z3
      rcases hr:(rowC 1 (by decide)).rd s.data.toList stk with ⟨sta,g⟩
      obtain ⟨l1,hl1⟩:∃ y,(rowR s.data.toList 1000 stk.r).2=y:=⟨_,rfl⟩
      have HG1:Hid (intM (ints l1)=g∧nnI (ints l1)):=by
       have h1:=qwk l1
       have h2:grp 1 (l1.length / 1) l1=g:=by
        have:((rowC 1 (by decide)).rd s.data.toList stk).2=g:=by rw [hr]
        rw [←this,←hl1]
        rfl
       exact ⟨h1.1.trans h2,h1.2⟩
      have HX:=hI hr
      have HRa:Hid (∀ (pc:ByteArray) A n c W,Calls Tryz.prog 44 #[.agg (dI s stk pc (.slice A n c)),.int .i64 1] W fun e w'=>∃ pc' A' c',e=.returned (.agg (dI s sta pc' (.slice A' l1.length c')))∧RdI w'.heap.size w' A' (ints l1)∧((A'=none→c'=0)∧l1.length≤c')∧Fr W.heap.size A'∧Below W.heap.size W w'):=fun pc A n c W=>by
       have:=HR1.out pc stk A n c W HPS.out
       unfold qhq at this
       rw [hr,hl1] at this
       exact this
      have hzs:z.size≤1000:=by have:=HZ.out;omega
      have LW:Hid (p4 < wJ.heap.size∧p1 < wJ.heap.size∧wJ.heap.size≤wr.heap.size):=⟨FJ.out.lt,by have:=FJ.out.q;have:=FJ.out.lt;omega,HKJ.out.size⟩
      clear hr hl1 hE x1 x2 z4 y0
      have z3:=z3'
      clear z3'
      obtain ⟨x1,x2,_,z4,y0⟩:=HF.out.cells
      go_wp2_with fail
      refine (HRa.out _ _ _ _ _).mono ?_
      rintro _ w1 ⟨pc1,A1,c1,rfl,hrd,hnc,hfr,hbA⟩
      clear x1 x2 z3 z4 y0 HRa
      have FA:=hI (HF.out.below hbA)
      obtain ⟨x1,x2,z3,z4,y0⟩:=FA.out.cells
      have hst:=qaq w1 p1 (dI s sta pc1 (.slice A1 l1.length c1)) x1 (qbk _ _ _ _) (qcn _ _ _ _ _ _)
      go_upto_region 15 with (fail)
      clear hst x1 x2 z3 z4 y0
      have F2:=hI (FA.out.set sta pc1 A1 l1.length c1)
      have R2:=hI (RdI.set (p1:=p1) (cs:=dI s sta pc1 (.slice A1 l1.length c1)) hrd hfr (by have:=HF.out.q;have:=HF.out.lt;omega))
      have K2:Hid (KF wJ.heap.size wr (w1.setRow p1 (dI s sta pc1 (.slice A1 l1.length c1)))):=KF.ts hbA _ LW.out.2.1
      have J2:Hid (KF (p4 + 1) wJ (w1.setRow p1 (dI s sta pc1 (.slice A1 l1.length c1)))):=HKJ.out.trans (KF.ts hbA _ (by have:=HF.out.q;omega))
      have HFA:=hI hfr
      have HNC:=hI hnc
      obtain ⟨w5,hw5⟩:∃ W,W=w1.setRow p1 (dI s sta pc1 (.slice A1 l1.length c1)):=⟨_,rfl⟩
      rw [←hw5] at F2 R2 K2 J2 ⊢
      clear hw5 hrd hnc hfr hbA FA
      have HXI:Hid (kdI.rd w5 ⟨A1,c1,ints l1⟩):=⟨R2.out,by rw [qao];exact HNC.out.2,HNC.out.1⟩
      have HXB:Hid (∀ blk,kdI.rw (⟨A1,c1,ints l1⟩:RW Int) blk→wr.heap.size≤blk):=fun blk hb=>hb.fr HFA.out
      obtain ⟨x1,x2,z3,z4,y0⟩:=F2.out.cells
      obtain ⟨_,y10,_⟩:=F2.out.cells2
      have hown2:=qbj (HDm.out.kf K2.out).own (bel1 w5 (.cells #[.slice A1 l1.length c1] 26))
      go_wp2_with (at_builtin;refine wpList_append_own_at _ rfl _ _ 25 rfl wJ.heap.size 26 j0 (.slice none 0 0) 1 24 Tryz.underlying25 hj0 hy0 hy1 hy2 rfl (by decide) _ _ _ rfl hown2 ⟨w5.heap.size,0,none⟩ 1 1 [.slice A1 l1.length c1] rfl rfl (qcl w5 _ _) (by simp [Value.oneCell']) (by unfold maxLen;omega) (by omega) (by have:=K2.out.size;have:=LW.out;simp;omega) ?_;intro v' wE hown3 hgrow _ hat;obtain ⟨Av,cv,rfl⟩:=qdo hown3;have F6:=hI ((F2.out.below (bel1 w5 _)).grown hgrow (fun x e=>by have:=HDm.out.oldB x e;have:=LW.out;omega));obtain ⟨k1,k2,k3,k4,k5⟩:=F6.out.froz;obtain ⟨j1,j2,j3,j4⟩:=F6.out.cells2)
      go_roundw
      case rel =>
       have hb:=bel1 w5 (.cells #[.slice A1 l1.length c1] 26)
       have hown4:wE.ownsRow wJ.heap.size 26 1 (.slice Av (z.size + 1) cv) (z.size + 1) ((flatK encW 1 z).toList ++ [.slice A1 (ints l1).size c1]):=by rw [qao];exact hown3
       refine ⟨k + 1,z.push ⟨A1,c1,ints l1⟩,.slice Av (z.size + 1) cv,pc1,A1,l1.length,c1,by go_num,by omega,hI (by rw [Array.size_push,HZ.out]),?_,?_,?_⟩
       ·have e:(qan ((rowC 1 (by decide)).rd s.data.toList) (z.push ⟨A1,c1,ints l1⟩:Array (RW Int)).size st1).1=sta:=by
         rw [Array.size_push,qcm,HSK.out,HX.out]
        rw [e]
        exact hI (F6.out.setm _)
       ·refine hI ((HDm.out.step (K2.out.trans (KF.of_below hb)) (kdI.keep HXI.out hb.size (fun blk h=>hb.block blk (kdI.lt HXI.out h))) HXB.out LW.out.2.2 ?_ HG1.out.2 hown4 hgrow (fun _=>hat.imp id (fun e=>⟨_,e,Nat.le_refl _⟩))).kf (KF.of_setCell (by have:=HF.out.q;have:=LW.out;show p2 < _;omega) _ _))
        rw [HSK.out,HX.out]
        exact HG1.out.1
       ·exact hI (((J2.out.trans (KF.of_below hb)).grow hgrow (fun g e=>HDm.out.oldB g e)).trans (KF.of_setCell (by have:=HF.out.q;show p2 < p4 + 1;omega) _ _))
      case measure=>simp [intOf];omega
     ·have HE:=hI hE
      obtain ⟨ek,hek⟩:∃ e,stk.r.e=e:=⟨_,rfl⟩
      rw [hek] at z3 hE
      have hne:((ek:Int) == 0)=false:=by simpa using hE
      clear hek hE x1 x2 z4
      go_wp2
      go_meet
      exact ⟨z,v,pk,Ak,nk,ck,hI ⟨by have:=HZ.out;omega,Or.inr (by rw [HSK.out];exact HE.out)⟩,by rw [HSK.out];exact HF,HDm,HKJ⟩
    ·have kz:decide ((k:Int) < (n:Int))=false:=decide_eq_false (by omega)
     clear x1 x2 z3 z4
     go_wp2
     go_meet
     exact ⟨z,v,pk,Ak,nk,ck,hI ⟨by have:=HZ.out;omega,Or.inl (by have:=HZ.out;omega)⟩,by rw [HSK.out];exact HF,HDm,HKJ⟩
  case rest=>as_aux_lemma =>
   obtain ⟨z,v,pk,Ak,nk,ck,HK,HF,HDm,HKJ⟩:=hcut
   obtain ⟨hf1,hf2⟩:=HDm.out.fin HK.out.1 HK.out.2 E2.out
   rw [hf1] at HF
   obtain ⟨xm,hx1,hx2,hx3⟩:=DmI.done HDm.out
   have X_xm:=hI hx3
   have V_xm:=hI hf2
   rw [←hx2] at V_xm
   subst hx1
   clear hf1 hf2 HK hx2 hx3
   have XK:=hI (X_xk.out.kf HKJ.out)
   have XM:=hI (X_xm.out.mono (by have:=FJ.out.lt;exact this:p4 + 1≤wJ.heap.size))
   have HKJ0:=hI HKJ.out.size
   clear HDm HKJ X_xm X_xk
   rcases hr:(rowC 1 (by decide)).rd s.data.toList st2 with ⟨sta,g⟩
   have hE3:(st3,gf)=(sta,g):=E3.out.symm.trans hr
   injection hE3 with hs3 hg3
   subst hs3 hg3
   obtain ⟨lf,hlf⟩:∃ y,(rowR s.data.toList 1000 st2.r).2=y:=⟨_,rfl⟩
   have HG1:Hid (intM (ints lf)=gf∧nnI (ints lf)):=by
    have h1:=qwk lf
    have h2:grp 1 (lf.length / 1) lf=gf:=by
     have:((rowC 1 (by decide)).rd s.data.toList st2).2=gf:=by rw [hr]
     rw [←this,←hlf]
     rfl
    exact ⟨h1.1.trans h2,h1.2⟩
   have HRa:Hid (∀ (pc:ByteArray) A n c W,Calls Tryz.prog 44 #[.agg (dI s st2 pc (.slice A n c)),.int .i64 1] W fun e w'=>∃ pc' A' c',e=.returned (.agg (dI s st3 pc' (.slice A' lf.length c')))∧RdI w'.heap.size w' A' (ints lf)∧((A'=none→c'=0)∧lf.length≤c')∧Fr W.heap.size A'∧Below W.heap.size W w'):=fun pc A n c W=>by
    have:=HR1.out pc st2 A n c W HP2.out
    unfold qhq at this
    rw [hr,hlf] at this
    exact this
   clear hr hlf
   obtain ⟨x1,x2,z3,z4,y0⟩:=HF.out.cells
   go_wp2_with fail
   refine (HRa.out _ _ _ _ _).mono ?_
   rintro _ w1 ⟨pc1,A1,c1,rfl,hrd,hnc,hfr,hbA⟩
   clear x1 x2 z3 z4 y0 HRa
   have FA:=hI (HF.out.below hbA)
   obtain ⟨x1,x2,z3,z4,y0⟩:=FA.out.cells
   have hst:=qaq w1 p1 (dI s st3 pc1 (.slice A1 lf.length c1)) x1 (qbk _ _ _ _) (qcn _ _ _ _ _ _)
   go_upto_region 17 with (fail)
   clear hst x1 x2 z3 z4 y0
   have F2:=hI (FA.out.set st3 pc1 A1 lf.length c1)
   have R2:=hI (RdI.set (p1:=p1) (cs:=dI s st3 pc1 (.slice A1 lf.length c1)) hrd hfr (by have:=HF.out.q;have:=HF.out.lt;omega))
   have K2:Hid (KF (p4 + 1) wc (w1.setRow p1 (dI s st3 pc1 (.slice A1 lf.length c1)))):=KF.ts hbA _ (by have:=HF.out.q;omega)
   have XF0:Hid (RdN0 (p4 + 1) ⟨A1,c1,ints lf⟩ (w1.setRow p1 (dI s st3 pc1 (.slice A1 lf.length c1)))):=RdN0.of_row R2.out hnc (hfr.mono HF.out.lt)
   obtain ⟨w2,hw2⟩:∃ W,W=w1.setRow p1 (dI s st3 pc1 (.slice A1 lf.length c1)):=⟨_,rfl⟩
   rw [←hw2] at F2 K2 XF0 ⊢
   clear hw2 hrd hnc hfr hbA FA R2 HF
   have hzf:(ints lf).size=lf.length:=qao lf
   obtain ⟨x1,x2,z3,z4,y0⟩:=F2.out.cells
   obtain ⟨_,_,y11,_⟩:=F2.out.cells2
   obtain ⟨k1,k2,k3,k4,k5⟩:=F2.out.froz
   go_upto_region 18 with (fail)
   clear x1 x2 z3 z4 y0 y11 k1 k2 k3 k4 k5
   rw [←hzf]
   have FL:=hI (F2.out.setf (.slice A1 (ints lf).size c1))
   have KL:KF (p4 + 1) wc (w2.setCell ⟨p2,11,none⟩ (.slice A1 (ints lf).size c1)):=K2.out.trans (KF.of_setCell (by have:=F2.out.q;show p2 < p4 + 1;omega) _ _)
   have XF1:=hI (XF0.out.kf (KF.of_setCell (p:=⟨p2,11,none⟩) (by have:=F2.out.q;show p2 < p4 + 1;omega) _ (.slice A1 (ints lf).size c1)))
   have XK1:=hI (XK.out.kf KL)
   have XM1:=hI (XM.out.kf KL)
   obtain ⟨xf,hxf⟩:∃ y:RW Int,y=⟨A1,c1,ints lf⟩:=⟨_,rfl⟩
   obtain ⟨wL,hwL⟩:∃ W,W=w2.setCell ⟨p2,11,none⟩ (.slice A1 (ints lf).size c1):=⟨_,rfl⟩
   rw [←hwL] at FL XF1 XK1 XM1 ⊢
   have HXF:=hI hxf
   have HZF:=hI hzf
   clear hwL KL XK XM XF0 K2 F2 hxf hzf
   obtain ⟨Af,hAf⟩:∃ y,y=A1:=⟨_,rfl⟩
   obtain ⟨cf,hcf⟩:∃ y,y=c1:=⟨_,rfl⟩
   rw [←hAf,←hcf] at FL XF1 HXF
   clear hAf hcf
   go_upto_block 4 with fail
   go_cut [9] from 73 to 94 (fun _ wx=>∃ (z:Array (RW (Int×Int))) (v:Value) (pc:ByteArray) (A:Option Addr) (ln c:Nat),Hid (z.size≤n∧(z.size=n∨(qan ((rowC 2 (by decide)).rd s.data.toList) z.size st3).1.r.e≠0))∧Hid (ThF s n a w p1 p2 p3 p4 (qan ((rowC 2 (by decide)).rd s.data.toList) z.size st3).1 pc A ln c (.slice xk.A xk.z.size xk.c) (.slice xm.A xm.z.size xm.c) (.slice Af (ints lf).size cf) v wx)∧Hid (DmI kdD (rowC 2 (by decide)) (fun x:RW (Int×Int)=>qbg x.z) (fun x:RW (Int×Int)=>nnP x.z) 79 wL.heap.size s st3 z v wx)∧Hid (KF (p4 + 1) wL wx))
   case first =>
    go_wp2_with fail
    go_loopw [9] (fun i W=>∃ (k:Nat) (z:Array (RW (Int×Int))) (v:Value) (pc:ByteArray) (A:Option Addr) (ln c:Nat),i=.int .i64 (k:Int)∧k≤n∧Hid (z.size=k)∧Hid (ThF s n a w p1 p2 p3 p4 (qan ((rowC 2 (by decide)).rd s.data.toList) z.size st3).1 pc A ln c (.slice xk.A xk.z.size xk.c) (.slice xm.A xm.z.size xm.c) (.slice Af (ints lf).size cf) v W)∧Hid (DmI kdD (rowC 2 (by decide)) (fun x:RW (Int×Int)=>qbg x.z) (fun x:RW (Int×Int)=>nnP x.z) 79 wL.heap.size s st3 z v W)∧Hid (KF (p4 + 1) wL W)) (fun i _=>n - (intOf i).toNat)
    case atStart=>exact ⟨0,#[],.slice none 0 0,_,_,_,_,rfl,Nat.zero_le _,hI rfl,FL,hI DmI.start,hI (KF.refl _ _)⟩
    case round=>as_aux_lemma =>
     obtain ⟨k,z,v,pk,Ak,nk,ck,rfl,hk,HZ,HF,HDm,HKJ⟩:=hrel
     obtain ⟨stk,hstk⟩:∃ e,(qan ((rowC 2 (by decide)).rd s.data.toList) z.size st3).1=e:=⟨_,rfl⟩
     have HSK:=hI hstk
     rw [hstk] at HF
     have HPS:Hid (stk.r.pos≤s.data.toList.length):=by have:=qdy (C:=(rowC 2 (by decide))) (k:=z.size) HP3.out;rw [hstk] at this;exact this
     clear hstk
     obtain ⟨x1,x2,z3,z4,y0⟩:=HF.out.cells
     by_cases h0:k < n
     ·have kz:(k:Int) < (n:Int):=by omega
      by_cases hE:stk.r.e=0
      ·have z3':wr.cell? ⟨p1,3,none⟩=some (.int .i64 0):=by rw [z3,hE];rfl
       clear z3
       rcases hr:(rowC 2 (by decide)).rd s.data.toList stk with ⟨sta,g⟩
       obtain ⟨l1,hl1⟩:∃ y,(rowR s.data.toList 1000 stk.r).2=y:=⟨_,rfl⟩
       have hll1:l1.length≤1000:=by have:=HRF.out stk;rw [hl1] at this;exact this
       have M1:=hI (qfs (qdf hr))
       have HG1:Hid (grp 2 (l1.length / 2) l1=g):=by
        have:((rowC 2 (by decide)).rd s.data.toList stk).2=g:=by rw [hr]
        show _=_
        rw [←this,←hl1]
        rfl
       have HX:=hI hr
       have HRa:Hid (∀ (pc:ByteArray) A n c W,Calls Tryz.prog 44 #[.agg (dI s stk pc (.slice A n c)),.int .i64 2] W fun e w'=>∃ pc' A' c',e=.returned (.agg (dI s sta pc' (.slice A' l1.length c')))∧RdI w'.heap.size w' A' (ints l1)∧((A'=none→c'=0)∧l1.length≤c')∧Fr W.heap.size A'∧Below W.heap.size W w'):=fun pc A n c W=>by
        have:=HR2.out pc stk A n c W HPS.out
        unfold qhq at this
        rw [hr,hl1] at this
        exact this
       have hzs:z.size≤1000:=by have:=HZ.out;omega
       have LW:Hid (p4 < wL.heap.size∧p1 < wL.heap.size∧wL.heap.size≤wr.heap.size):=⟨FL.out.lt,by have:=FL.out.q;have:=FL.out.lt;omega,HKJ.out.size⟩
       clear hr hl1 hE x1 x2 z4 y0
       have z3:=z3'
       clear z3'
       obtain ⟨x1,x2,_,z4,y0⟩:=HF.out.cells
       go_wp2_with fail
       refine (HRa.out _ _ _ _ _).mono ?_
       rintro _ w1 ⟨pc1,A1,c1,rfl,hrd,hnc,hfr,hbA⟩
       clear x1 x2 z3 z4 y0 HRa
       have FA:=hI (HF.out.below hbA)
       obtain ⟨x1,x2,z3,z4,y0⟩:=FA.out.cells
       have hst:=qaq w1 p1 (dI s sta pc1 (.slice A1 l1.length c1)) x1 (qbk _ _ _ _) (qcn _ _ _ _ _ _)
       go_upto_region 22 with (fail)
       clear hst x1 x2 z3 z4 y0
       have F2:=hI (FA.out.set sta pc1 A1 l1.length c1)
       have R2:=hI (RdI.set (p1:=p1) (cs:=dI s sta pc1 (.slice A1 l1.length c1)) hrd hfr (by have:=HF.out.q;have:=HF.out.lt;omega))
       have K2:Hid (KF wL.heap.size wr (w1.setRow p1 (dI s sta pc1 (.slice A1 l1.length c1)))):=KF.ts hbA _ LW.out.2.1
       have J2:Hid (KF (p4 + 1) wL (w1.setRow p1 (dI s sta pc1 (.slice A1 l1.length c1)))):=HKJ.out.trans (KF.ts hbA _ (by have:=HF.out.q;omega))
       obtain ⟨w2,hw2⟩:∃ W,W=w1.setRow p1 (dI s sta pc1 (.slice A1 l1.length c1)):=⟨_,rfl⟩
       rw [←hw2] at F2 R2 K2 J2 ⊢
       clear hw2 hrd hnc hfr hbA FA
       have HTS:=hI (fun W h=>qvj A1 c1 l1 W h (by omega))
       have KS0:Hid (∀ W,Below w2.heap.size w2 W→W.cell? ⟨p1,4,none⟩=some (.slice A1 l1.length c1)∧W.cell? ⟨p2,12,none⟩=some v):=fun W hb=>⟨((F2.out.below hb).cells).2.2.2.1,((F2.out.below hb).cells2).2.2.2⟩
       go_wp2_with fail
       refine qat (S:=fun W=>W.cell? ⟨p1,4,none⟩=some (.slice A1 l1.length c1)∧W.cell? ⟨p2,12,none⟩=some v) (by kernel_rfl) ?_
       have hS:=KS0.out _ (Below.refl _ _).drew
       refine tkF 87 0 rfl rfl hS ?_
       simp only [Act.put,sA,s0,s1]
       refine tkF 88 1 rfl rfl hS ?_
       simp only [Act.put,sA,s0,s1]
       refine tkF 89 2 rfl rfl hS ?_
       simp only [Act.put,sA,s0,s1]
       refine tkF 90 3 rfl rfl hS ?_
       simp only [Act.put,sA,s0,s1]
       refine rdy1 4 rfl (fun K hK=>?_)
       go_simp
       refine (HTS.out w2.drew (R2.out.below' (Below.refl _ _).drew)).mono ?_
       rintro _ w4 ⟨B1,d1,rfl,hrd,hcz,hno,hfr,hbA⟩
       have hb2:Below w2.heap.size w2 w4:=(Below.refl w2.heap.size w2).drew.trans hbA
       refine hK.out _ _ (KS0.out _ hb2) (fun _=>?_)
       clear hK K hS HTS
       have F4:=hI (F2.out.below hb2)
       have K4:=hI (K2.out.trans (KF.of_below hb2))
       have J4:=hI (J2.out.trans (KF.of_below hb2))
       have HW4:Hid (wr.heap.size≤w2.heap.size):=K2.out.size
       have HXD:Hid (kdD.rd w4 ⟨B1,d1,qai (grp 2 (l1.length / 2) l1)⟩):=⟨hrd,hcz,hno⟩
       have HXB:Hid (∀ blk,kdD.rw (⟨B1,d1,qai (grp 2 (l1.length / 2) l1)⟩:RW (Int×Int)) blk→wr.heap.size≤blk):=fun blk hb=>Nat.le_trans HW4.out (hb.fr hfr)
       clear hrd hcz hno hfr hbA hb2 F2 K2 J2 R2 KS0
       have KS:Hid (∀ W:World,(∀ i,i < w4.heap.size→v.ownBlock≠some i→W.heap[i]?=w4.heap[i]?)→W.cell? ⟨p1,4,none⟩=some (.slice A1 l1.length c1)∧W.cell? ⟨p2,12,none⟩=some v):=fun W hst =>
        ⟨qau (F4.out.cells).2.2.2.1 (hst p1 (qaa F4.out.x) (fun e=>by have:=HDm.out.oldB p1 e;have:=LW.out;omega)),qau (F4.out.cells2).2.2.2 (hst p2 (qaa F4.out.r) (fun e=>by have:=HDm.out.oldB p2 e;have:=LW.out;have:=F4.out.q;omega))⟩
       have hown2:=qbj (HDm.out.kf K4.out).own (bel1 w4 (.cells #[.slice B1 (qai (grp 2 (l1.length / 2) l1)).size d1] 79))
       refine rdy1 5 rfl (fun K hK=>?_)
       go_simp
       refine hK.out _ _ (KS.out _ (fun i h _=>Below.heap_alloc w4 _ i h)) (fun _=>?_)
       clear hK K
       refine rdy1 6 rfl (fun K hK=>?_)
       refine qff (by rfl) _ _ _ (by rfl) wL.heap.size 79 k0 (.slice none 0 0) 1 24 Tryz.underlying27 hk0 hv0 hv1 hv2 rfl (by decide) _ z.size (flatK encW 1 z).toList (by rfl) hown2 ⟨w4.heap.size,0,none⟩ 1 1 [.slice B1 (qai (grp 2 (l1.length / 2) l1)).size d1] (by rfl) (by rfl) (qeg (qah w4 _)) (by simp [Value.oneCell']) (by unfold maxLen;omega) (by omega) (by have:=K4.out.size;have:=LW.out;simp;omega) ?_
       intro v' wE hown3 hgrow hat
       obtain ⟨Av,cv,rfl⟩:=qdo hown3
       have KS5:=KS.out wE (fun i h1 h2=>(hgrow.block i (by simp;omega) (fun e=>h2 e.symm)).trans (Below.heap_alloc w4 _ i h1))
       refine hK.out _ _ KS5 (fun _=>?_)
       clear hK K
       have hS:=KS5
       refine tkF 94 7 rfl rfl hS ?_
       simp only [Act.put,List.setIfInBounds_toArray]
       clear hS KS5 KS hown2
       have F6:=hI ((F4.out.below (bel1 w4 (.cells #[.slice B1 (qai (grp 2 (l1.length / 2) l1)).size d1] 79))).grown hgrow (fun x e=>by have:=HDm.out.oldB x e;have:=LW.out;omega))
       have HOE:=hI hown3
       have HGE:=hI hgrow
       have HAE:=hI hat
       clear hown3 hgrow hat
       obtain ⟨k1,k2,k3,k4,k5⟩:=F6.out.froz
       obtain ⟨_,_,_,y12⟩:=F6.out.cells2
       refine rdyL 8 rfl (fun K hK=>?_)
       go_simp
       refine hK.out _ _ ?_
       clear hK K k1 k2 k3 k4 k5 y12
       refine qas (by kernel_rfl) ?_ _
       go_wp2
       go_roundw
       case rel =>
        have hb:=bel1 w4 (.cells #[.slice B1 (qai (grp 2 (l1.length / 2) l1)).size d1] 79)
        refine ⟨k + 1,z.push ⟨B1,d1,qai (grp 2 (l1.length / 2) l1)⟩,.slice Av (z.size + 1) cv,pc1,A1,l1.length,c1,by go_num,by omega,hI (by rw [Array.size_push,HZ.out]),?_,?_,?_⟩
        ·have e:(qan ((rowC 2 (by decide)).rd s.data.toList) (z.push ⟨B1,d1,qai (grp 2 (l1.length / 2) l1)⟩:Array (RW (Int×Int))).size st3).1=sta:=by
          rw [Array.size_push,qcm,HSK.out,HX.out]
         rw [e]
         exact hI (F6.out.setd _)
        ·refine hI ((HDm.out.step (K4.out.trans (KF.of_below hb)) (kdD.keep HXD.out hb.size (fun blk h=>hb.block blk (kdD.lt HXD.out h))) HXB.out LW.out.2.2 ?_ ?_ HOE.out HGE.out (fun _=>HAE.out.imp id (fun e=>⟨_,e,Nat.le_refl _⟩))).kf (KF.of_setCell (by have:=HF.out.q;have:=LW.out;show p2 < _;omega) _ _))
         ·rw [HSK.out,HX.out,HG1.out]
          exact M1.out.1
         ·rw [HG1.out]
          exact M1.out.2
        ·exact hI (((J4.out.trans (KF.of_below hb)).grow HGE.out (fun g e=>HDm.out.oldB g e)).trans (KF.of_setCell (by have:=HF.out.q;show p2 < p4 + 1;omega) _ _))
       case measure=>simp [intOf];omega
      ·have HE:=hI hE
       obtain ⟨ek,hek⟩:∃ e,stk.r.e=e:=⟨_,rfl⟩
       rw [hek] at z3 hE
       have hne:((ek:Int) == 0)=false:=by simpa using hE
       clear hek hE x1 x2 z4
       go_wp2
       go_meet
       exact ⟨z,v,pk,Ak,nk,ck,hI ⟨by have:=HZ.out;omega,Or.inr (by rw [HSK.out];exact HE.out)⟩,by rw [HSK.out];exact HF,HDm,HKJ⟩
     ·have kz:decide ((k:Int) < (n:Int))=false:=decide_eq_false (by omega)
      clear x1 x2 z3 z4
      go_wp2
      go_meet
      exact ⟨z,v,pk,Ak,nk,ck,hI ⟨by have:=HZ.out;omega,Or.inl (by have:=HZ.out;omega)⟩,by rw [HSK.out];exact HF,HDm,HKJ⟩
   case rest=>as_aux_lemma =>
    obtain ⟨z,v,pk,Ak,nk,ck,HK,HF,HDm,HKJ⟩:=hcut
    obtain ⟨hf1,hf2⟩:=HDm.out.fin HK.out.1 HK.out.2 E4.out
    rw [hf1] at HF
    obtain ⟨xd,hx1,hx2,hx3⟩:=DmI.done HDm.out
    have X_xd:=hI hx3
    have V_xd:=hI hf2
    rw [←hx2] at V_xd
    subst hx1
    clear hf1 hf2 HK hx2 hx3
    have XK:=hI (XK1.out.kf HKJ.out)
    have XM:=hI (XM1.out.kf HKJ.out)
    have XF:=hI (XF1.out.kf HKJ.out)
    have XD:=hI (X_xd.out.mono (by have:=FL.out.lt;exact this:p4 + 1≤wL.heap.size))
    have QQ:=hI HF.out.q
    clear HDm HKJ X_xd XK1 XM1 XF1 FL FJ
    have H1R:qbw (hR n a (.slice xk.A xk.z.size xk.c) (.slice xm.A xm.z.size xm.c) (.slice Af (ints lf).size cf) (.slice xd.A xd.z.size xd.c))=true:=hR_one HA.out
    obtain ⟨cr,hcr⟩:∃ y,y=hR n a (.slice xk.A xk.z.size xk.c) (.slice xm.A xm.z.size xm.c) (.slice Af (ints lf).size cf) (.slice xd.A xd.z.size xd.c):=⟨_,rfl⟩
    obtain ⟨ci,hci⟩:∃ y,y=dI s st4 pk (.slice Ak nk ck):=⟨_,rfl⟩
    have HI:cr.size=18:=by rw [hcr];rfl
    have HI2:ci.size=6:=by rw [hci];rfl
    have H1I:qbw ci=true:=by rw [hci];exact qcn _ _ _ _ _ _
    have bx:Hid (wc.heap[p1]?=some (.cells ci 98 (0,0))):=by rw [hci];exact HF.out.x
    have br:Hid (wc.heap[p2]?=some (.cells cr 35 (0,0))):=by rw [hcr];exact HF.out.r
    rw [←hcr] at H1R
    have HCR:=hI hcr
    have HCI:=hI hci
    clear hcr hci
    obtain ⟨i0,i1,i2,i3,i4,i5,hci⟩:=arr6 HI2
    obtain ⟨r0,r1,r2,r3,r4,r5,r6,r7,r8,r9,r10,r11,r12,r13,r14,r15,r16,r17,hcr⟩:=arr18 HI
    have HCI2:=hI hci
    have HCR2:=hI hcr
    have KS:Hid (∀ W:World,W.heap[p1]?=wc.heap[p1]?→W.heap[p2]?=wc.heap[p2]?→W.cell? ⟨p1,0,none⟩=some i0∧W.cell? ⟨p1,1,none⟩=some i1∧W.cell? ⟨p1,2,none⟩=some i2∧W.cell? ⟨p1,3,none⟩=some i3∧W.cell? ⟨p1,4,none⟩=some i4∧W.cell? ⟨p1,5,none⟩=some i5∧W.cell? ⟨p2,0,none⟩=some r0∧W.cell? ⟨p2,1,none⟩=some r1∧W.cell? ⟨p2,2,none⟩=some r2∧W.cell? ⟨p2,3,none⟩=some r3∧W.cell? ⟨p2,4,none⟩=some r4∧W.cell? ⟨p2,5,none⟩=some r5∧W.cell? ⟨p2,6,none⟩=some r6∧W.cell? ⟨p2,7,none⟩=some r7∧W.cell? ⟨p2,8,none⟩=some r8∧W.cell? ⟨p2,9,none⟩=some r9∧W.cell? ⟨p2,10,none⟩=some r10∧W.cell? ⟨p2,11,none⟩=some r11∧W.cell? ⟨p2,12,none⟩=some r12∧W.cell? ⟨p2,13,none⟩=some r13∧W.cell? ⟨p2,14,none⟩=some r14∧W.cell? ⟨p2,15,none⟩=some r15∧W.cell? ⟨p2,16,none⟩=some r16∧W.cell? ⟨p2,17,none⟩=some r17):=fun W h1 h2=>⟨(qab (h1.trans bx.out) 0).trans (by rw [hci];rfl),(qab (h1.trans bx.out) 1).trans (by rw [hci];rfl),(qab (h1.trans bx.out) 2).trans (by rw [hci];rfl),(qab (h1.trans bx.out) 3).trans (by rw [hci];rfl),(qab (h1.trans bx.out) 4).trans (by rw [hci];rfl),(qab (h1.trans bx.out) 5).trans (by rw [hci];rfl),(qab (h2.trans br.out) 0).trans (by rw [hcr];rfl),(qab (h2.trans br.out) 1).trans (by rw [hcr];rfl),(qab (h2.trans br.out) 2).trans (by rw [hcr];rfl),(qab (h2.trans br.out) 3).trans (by rw [hcr];rfl),(qab (h2.trans br.out) 4).trans (by rw [hcr];rfl),(qab (h2.trans br.out) 5).trans (by rw [hcr];rfl),(qab (h2.trans br.out) 6).trans (by rw [hcr];rfl),(qab (h2.trans br.out) 7).trans (by rw [hcr];rfl),(qab (h2.trans br.out) 8).trans (by rw [hcr];rfl),(qab (h2.trans br.out) 9).trans (by rw [hcr];rfl),(qab (h2.trans br.out) 10).trans (by rw [hcr];rfl),(qab (h2.trans br.out) 11).trans (by rw [hcr];rfl),(qab (h2.trans br.out) 12).trans (by rw [hcr];rfl),(qab (h2.trans br.out) 13).trans (by rw [hcr];rfl),(qab (h2.trans br.out) 14).trans (by rw [hcr];rfl),(qab (h2.trans br.out) 15).trans (by rw [hcr];rfl),(qab (h2.trans br.out) 16).trans (by rw [hcr];rfl),(qab (h2.trans br.out) 17).trans (by rw [hcr];rfl)⟩
    clear hci hcr
    have y3:=HF.out.y
    have y4:=HF.out.z
    have Y3:=hI y3
    have Y4:=hI y4
    clear y3 y4
    go_wp2_with fail
    refine qat (S:=fun W=>W.cell? ⟨p1,0,none⟩=some i0∧W.cell? ⟨p1,1,none⟩=some i1∧W.cell? ⟨p1,2,none⟩=some i2∧W.cell? ⟨p1,3,none⟩=some i3∧W.cell? ⟨p1,4,none⟩=some i4∧W.cell? ⟨p1,5,none⟩=some i5∧W.cell? ⟨p2,0,none⟩=some r0∧W.cell? ⟨p2,1,none⟩=some r1∧W.cell? ⟨p2,2,none⟩=some r2∧W.cell? ⟨p2,3,none⟩=some r3∧W.cell? ⟨p2,4,none⟩=some r4∧W.cell? ⟨p2,5,none⟩=some r5∧W.cell? ⟨p2,6,none⟩=some r6∧W.cell? ⟨p2,7,none⟩=some r7∧W.cell? ⟨p2,8,none⟩=some r8∧W.cell? ⟨p2,9,none⟩=some r9∧W.cell? ⟨p2,10,none⟩=some r10∧W.cell? ⟨p2,11,none⟩=some r11∧W.cell? ⟨p2,12,none⟩=some r12∧W.cell? ⟨p2,13,none⟩=some r13∧W.cell? ⟨p2,14,none⟩=some r14∧W.cell? ⟨p2,15,none⟩=some r15∧W.cell? ⟨p2,16,none⟩=some r16∧W.cell? ⟨p2,17,none⟩=some r17) (by kernel_rfl) ?_
    have hS:=KS.out wc.drew rfl rfl
    refine tkF 95 0 rfl rfl hS ?_
    simp only [Act.put,sA,s0,s1]
    refine tkF 96 1 rfl rfl hS ?_
    simp only [Act.put,sA,s0,s1]
    clear hS
    rw [←HCI2.out,←HCR2.out]
    have hs1:=qcd wc.drew p3 _ dz ci Y3.out (by rw [HI2];rfl) H1I
    refine rdy1 2 rfl (fun K hK=>?_)
    go_simp
    refine hK.out _ _ (KS.out _ (setRow_other _ _ _ _ (by have:=QQ.out;omega)) (setRow_other _ _ _ _ (by have:=QQ.out;omega))) (fun _=>?_)
    clear hK K hs1
    have hs2:=qcd (wc.drew.setRow p3 ci) p4 _ #[.int .i64 0,.int .i64 0,.int .i64 0,.int .i64 0,.int .i64 0,.int .i64 0,.int .i64 0,.slice none 0 0,.slice none 0 0,.slice none 0 0,.slice none 0 0,.slice none 0 0,.slice none 0 0,.int .i64 0,.int .i64 0,.int .i64 0,.slice none 0 0,.slice none 0 0] cr ((setRow_other _ _ _ _ (by have:=QQ.out;omega)).trans Y4.out) (by rw [HI];rfl) H1R
    refine rdyL 3 rfl (fun K hK=>?_)
    go_simp
    refine hK.out _ _ ?_
    clear hK K hs2
    refine qas (by kernel_rfl) ?_ _
    go_wp2
    have Z8:=setRow_heap (wc.drew.setRow p3 ci) p4 _ cr _ _ ((setRow_other _ _ _ _ (by have:=QQ.out;omega)).trans Y4.out)
    have Y8:((wc.drew.setRow p3 ci).setRow p4 cr).heap[p3]?=some (.cells ci 98 (0,0)):=(setRow_other _ _ _ _ (by have:=QQ.out;omega)).trans (setRow_heap wc.drew p3 _ ci _ _ Y3.out)
    have K8:KF (p4 + 1) wc ((wc.drew.setRow p3 ci).setRow p4 cr):=(((KF.refl _ wc).drew).trans (KF.of_setRow (by have:=QQ.out;omega) _ _)).trans (KF.of_setRow (by omega) _ _)
    refine bodyPost_ret (qlr (T:=98) rfl rfl Y8 HI2 rfl (qii Z8 HI)) rfl ?_
    refine ⟨pk,Ak,nk,ck,xk,xm,xf,xd,by rw [HCR.out,HCI.out,HXF.out],(XK.out.kf K8).mono (by have:=QQ.out;omega),(XM.out.kf K8).mono (by have:=QQ.out;omega),by rw [HXF.out];exact (XF.out.kf K8).mono (by have:=QQ.out;omega),(XD.out.kf K8).mono (by have:=QQ.out;omega),fun h0=>⟨V_xk.out (B1.out h0),V_xm.out (B2.out h0),by rw [HXF.out];exact HG1.out,V_xd.out h0⟩,qbx (qbx HF.out.b.drew (by have:=QQ.out;omega) _) (by have:=QQ.out;omega) _⟩
end Go.Proofs.YtnmojicfmcbgmaaGreatDoor
namespace Go.Proofs.YtnmojicfmcbgmaaGreatDoor
open Go.RowKit Go.Sort Go.Lib
set_option maxRecDepth 100000
def badN (r:RP) (i:Nat):Prop:=(500 < r.k.z[i]!.r.z.size∨500 < r.k.z[i]!.a.z.size)∨500 < r.d.z[i]!.z.size
theorem qvl {r:RP} (hd:r.d.z.size=r.k.z.size):qed r=true↔500 < r.o.z.size∨∃ i,i < r.k.z.size∧badN r i:=by
 rw [qqk,hd]
 unfold badN
 constructor
 ·rintro ((h | ⟨i,hi,h⟩) | ⟨i,hi,h⟩)
  ·exact Or.inl h
  ·exact Or.inr ⟨i,hi,Or.inl h⟩
  ·exact Or.inr ⟨i,hi,Or.inr h⟩
 ·rintro (h | ⟨i,hi,h | h⟩)
  ·exact Or.inl (Or.inl h)
  ·exact Or.inl (Or.inr ⟨i,hi,h⟩)
  ·exact Or.inr ⟨i,hi,h⟩
set_option maxHeartbeats 4000000 in
theorem rWide_any (r:RP) (w:World) (hr:RdP w r) (hn:(r.k.z.size:Int)=r.n) (hd:r.d.z.size=r.k.z.size) (hk1:r.k.z.size≤1000):Calls Tryz.prog 31 #[.agg (encP r).toArray] w fun e w'=>e=.returned (.bool (qed r))∧Below w.heap.size w w':=by
 have HR:=hI hr
 have HT:Hid (∀ k,k < r.k.z.size→badN r k→qed r=true):=fun k hk h=>(qvl hd).2 (Or.inr ⟨k,hk,h⟩)
 have HF:Hid ((∀ k,k < r.k.z.size→¬ badN r k)→decide ((500:Int) < (r.o.z.size:Int))=qed r):=fun h=>by
  rw [Bool.eq_iff_iff,qvl hd,decide_eq_true_eq]
  constructor
  ·intro h1;exact Or.inl (by omega)
  ·rintro (h1 | ⟨i,hi,h1⟩)
   ·omega
   ·exact absurd h1 (h i hi)
 obtain ⟨cs,hcs⟩:∃ cs,cs=(encP r).toArray:=⟨_,rfl⟩
 have Q0:Hid (cs[0]?=some (.int .i64 (r.k.z.size:Int))):=by show _=_;rw [hcs,hn];rfl
 have Q8:Hid (cs[8]?=some (.slice r.o.A r.o.z.size r.o.c)):=by show _=_;rw [hcs];rfl
 have Q9:Hid (cs[9]?=some (.slice r.k.A r.k.z.size r.k.c)):=by show _=_;rw [hcs];rfl
 have Q12:Hid (cs[12]?=some (.slice r.d.A r.k.z.size r.d.c)):=by show _=_;rw [hcs,←hd];rfl
 have HD:=hI hd
 clear hr hn hd
 have hgoal:∀ y:Array Value,cs=y→Calls Tryz.prog 31 #[.agg y] w fun e w'=>e=.returned (.bool (qed r))∧Below w.heap.size w w':=by
  rintro _ rfl
  simp only [encP] at hcs
  have HX:=hI (BoxR.init w cs 35)
  rw [hcs]
  go_enter Tryz.func31,Tryz.ntmps31
  rw [←hcs]
  clear hcs
  go_wp2
  go_loopw [3] (fun i wr=>∃ (k:Nat),i=.int .i64 k∧k≤r.k.z.size∧Hid (∀ i,i < k→¬ badN r i)∧Hid (BoxR w cs 35 wr)) (fun i _=>r.k.z.size - (intOf i).toNat)
  case atStart=>exact ⟨0,rfl,Nat.zero_le _,hI (fun i hi=>absurd hi (by omega)),HX⟩
  case round =>
   obtain ⟨k,rfl,hk,HN,HX⟩:=hrel
   have c0:=HX.out.at_ 0 Q0.out
   have c8:=HX.out.at_ 8 Q8.out
   have c9:=HX.out.at_ 9 Q9.out
   have c12:=HX.out.at_ 12 Q12.out
   by_cases hlt:k < r.k.z.size
   ·have kz:(k:Int) < (r.k.z.size:Int):=by omega
    obtain ⟨b,off,hA,hbl,f⟩:=(HR.out.below HX.out.b).k.rd.at_ (i:=k) hlt
    obtain ⟨b2,off2,hA2,hbl2,f2⟩:=(HR.out.below HX.out.b).d.rd.at_ (i:=k) (by have:=HD.out;omega)
    have hA':r.k.A=some ⟨b,off,none⟩:=hA
    have hA2':r.d.A=some ⟨b2,off2,none⟩:=hA2
    rw [hA'] at c9
    rw [hA2'] at c12
    have HTk:=hI (HT.out k hlt)
    have HNk:Hid (¬ badN r k→∀ i,i < k + 1→¬ badN r i):=fun h i hi=>by
     rcases Nat.lt_or_ge i k with h1 | h1
     ·exact HN.out i h1
     ·obtain rfl:i=k:=by omega
      exact h
    have HBD:Hid (badN r k↔(500 < r.k.z[k]!.r.z.size∨500 < r.k.z[k]!.a.z.size)∨500 < r.d.z[k]!.z.size):=Iff.rfl
    obtain ⟨x,hx⟩:∃ x,r.k.z[k]! = x:=⟨_,rfl⟩
    obtain ⟨y,hy⟩:∃ y,r.d.z[k]! = y:=⟨_,rfl⟩
    rw [hx] at f
    rw [hy] at f2
    rw [hx,hy] at HBD
    have e1:=f 1 (by omega)
    have e2:=f 2 (by omega)
    have d0:=f2 0 (by omega)
    clear hx hy f f2 hA hA2 HN
    simp only [Nat.add_zero,Nat.mul_one,qcs,encW,RW.v,List.getElem!_cons_zero,List.getElem!_cons_succ] at e1 e2 d0
    by_cases h1:500 < x.r.z.size
    ·have HW:Hid (qed r=true):=HTk.out (HBD.out.2 (Or.inl (Or.inl h1)))
     have t1:decide ((500:Int) < (x.r.z.size:Int))=true:=decide_eq_true (by omega)
     go_wp2
     go_ret
     exact ⟨qag HW.out.symm,HX.out.b⟩
    ·have t1:decide ((500:Int) < (x.r.z.size:Int))=false:=decide_eq_false (by omega)
     by_cases h2:500 < x.a.z.size
     ·have HW:Hid (qed r=true):=HTk.out (HBD.out.2 (Or.inl (Or.inr h2)))
      have t2:decide ((500:Int) < (x.a.z.size:Int))=true:=decide_eq_true (by omega)
      go_wp2
      go_ret
      exact ⟨qag HW.out.symm,HX.out.b⟩
     ·have t2:decide ((500:Int) < (x.a.z.size:Int))=false:=decide_eq_false (by omega)
      by_cases h3:500 < y.z.size
      ·have HW:Hid (qed r=true):=HTk.out (HBD.out.2 (Or.inr h3))
       have t3:decide ((500:Int) < (y.z.size:Int))=true:=decide_eq_true (by omega)
       go_wp2
       go_ret
       exact ⟨qag HW.out.symm,HX.out.b⟩
      ·have t3:decide ((500:Int) < (y.z.size:Int))=false:=decide_eq_false (by omega)
       have HG:=hI (HNk.out (fun h=>by rcases HBD.out.1 h with (h | h) | h <;> omega))
       go_wp2
       go_roundw
       case rel=>exact ⟨k + 1,by go_num,by omega,HG,HX⟩
       case measure=>simp [intOf];omega
   ·have hlt':decide ((k:Int) < (r.k.z.size:Int))=false:=decide_eq_false (by omega)
    have HE:=hI (HF.out (fun i hi=>HN.out i (by omega)))
    go_wp2
    go_ret
    exact ⟨qag HE.out,HX.out.b⟩
 exact hgoal _ hcs
end Go.Proofs.YtnmojicfmcbgmaaGreatDoor
