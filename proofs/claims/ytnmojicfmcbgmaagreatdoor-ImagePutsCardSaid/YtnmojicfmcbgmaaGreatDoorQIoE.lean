/- Texts that the law leans on. -/
import Derived.Test.YtnmojicfmcbgmaaGreatDoorQImX
import Derived.Test.YtnmojicfmcbgmaaGreatDoorQRdr
namespace Go.Proofs.YtnmojicfmcbgmaaGreatDoor
open Go.RowKit Go.Sort Go.Lib Nb
set_option maxRecDepth 100000
def dI (s:ByteArray) (st:IS) (pc:ByteArray) (v:Value):Array Value:=#[.string s,.int .i64 (st.r.pos:Int),.string pc,.int .i64 (st.r.e:Int),v,.bool st.odd]
def dz:Array Value:=#[.string ⟨#[]⟩,.int .i64 0,.string ⟨#[]⟩,.int .i64 0,.slice none 0 0,.bool false]
theorem qfk {w:World} {g:Nat} {y0 y1 y2 y3 y4 y5:Value} {T:TypeId} (h:w.heap[g]?=some (.cells #[y0,y1,y2,y3,y4,y5] T (0,0))) (z0 z1 z2 z3 z4 z5:Value) :
 ((((((w.setCell ⟨g,0,none⟩ z0).setCell ⟨g,1,none⟩ z1).setCell ⟨g,2,none⟩ z2).setCell ⟨g,3,none⟩ z3).setCell ⟨g,4,none⟩ z4).setCell ⟨g,5,none⟩ z5).heap[g]?=some (.cells #[z0,z1,z2,z3,z4,z5] T (0,0)):=by
 have h0:(w.setCell ⟨g,0,none⟩ z0).heap[g]?=some (.cells #[z0,y1,y2,y3,y4,y5] T (0,0)):=qaj h 0 z0
 have h1:((w.setCell ⟨g,0,none⟩ z0).setCell ⟨g,1,none⟩ z1).heap[g]?=some (.cells #[z0,z1,y2,y3,y4,y5] T (0,0)):=qaj h0 1 z1
 have h2:(((w.setCell ⟨g,0,none⟩ z0).setCell ⟨g,1,none⟩ z1).setCell ⟨g,2,none⟩ z2).heap[g]?=some (.cells #[z0,z1,z2,y3,y4,y5] T (0,0)):=qaj h1 2 z2
 have h3:((((w.setCell ⟨g,0,none⟩ z0).setCell ⟨g,1,none⟩ z1).setCell ⟨g,2,none⟩ z2).setCell ⟨g,3,none⟩ z3).heap[g]?=some (.cells #[z0,z1,z2,z3,y4,y5] T (0,0)):=qaj h2 3 z3
 have h4:(((((w.setCell ⟨g,0,none⟩ z0).setCell ⟨g,1,none⟩ z1).setCell ⟨g,2,none⟩ z2).setCell ⟨g,3,none⟩ z3).setCell ⟨g,4,none⟩ z4).heap[g]?=some (.cells #[z0,z1,z2,z3,z4,y5] T (0,0)):=qaj h3 4 z4
 have h5:((((((w.setCell ⟨g,0,none⟩ z0).setCell ⟨g,1,none⟩ z1).setCell ⟨g,2,none⟩ z2).setCell ⟨g,3,none⟩ z3).setCell ⟨g,4,none⟩ z4).setCell ⟨g,5,none⟩ z5).heap[g]?=some (.cells #[z0,z1,z2,z3,z4,z5] T (0,0)):=qaj h4 5 z5
 exact h5
theorem qlp {w:World} {g:Nat} {y0 y1 y2 y3 y4 y5:Value} {T:TypeId} (h:w.heap[g]?=some (.cells #[y0,y1,y2,y3,y4,y5] T (0,0))) (z0 z1 z2 z3:Value) :
 ((((w.setCell ⟨g,0,none⟩ z0).setCell ⟨g,1,none⟩ z1).setCell ⟨g,2,none⟩ z2).setCell ⟨g,3,none⟩ z3).heap[g]?=some (.cells #[z0,z1,z2,z3,y4,y5] T (0,0)):=by
 have h0:(w.setCell ⟨g,0,none⟩ z0).heap[g]?=some (.cells #[z0,y1,y2,y3,y4,y5] T (0,0)):=qaj h 0 z0
 have h1:((w.setCell ⟨g,0,none⟩ z0).setCell ⟨g,1,none⟩ z1).heap[g]?=some (.cells #[z0,z1,y2,y3,y4,y5] T (0,0)):=qaj h0 1 z1
 have h2:(((w.setCell ⟨g,0,none⟩ z0).setCell ⟨g,1,none⟩ z1).setCell ⟨g,2,none⟩ z2).heap[g]?=some (.cells #[z0,z1,z2,y3,y4,y5] T (0,0)):=qaj h1 2 z2
 exact qaj h2 3 z3
theorem qbd {w:World} {g i:Nat} (hi:i≠g) (z0 z1 z2 z3:Value):((((w.setCell ⟨g,0,none⟩ z0).setCell ⟨g,1,none⟩ z1).setCell ⟨g,2,none⟩ z2).setCell ⟨g,3,none⟩ z3).heap[i]?=w.heap[i]?:=by
 rw [Below.heap_setCell _ _ _ _ (by exact hi),Below.heap_setCell _ _ _ _ (by exact hi),Below.heap_setCell _ _ _ _ (by exact hi),Below.heap_setCell _ _ _ _ (by exact hi)]
theorem qng {w a:World} {g:Nat} (h:Below w.heap.size w a) (hg:w.heap.size≤g) (z0 z1 z2 z3:Value):Below w.heap.size w ((((a.setCell ⟨g,0,none⟩ z0).setCell ⟨g,1,none⟩ z1).setCell ⟨g,2,none⟩ z2).setCell ⟨g,3,none⟩ z3) :=
 (((h.setCell hg z0).setCell hg z1).setCell hg z2).setCell hg z3
theorem qgy {w a:World} {g:Nat} (h:Below w.heap.size w a) (hg:w.heap.size≤g) (z0 z1 z2 z3 z4 z5:Value):Below w.heap.size w ((((((a.setCell ⟨g,0,none⟩ z0).setCell ⟨g,1,none⟩ z1).setCell ⟨g,2,none⟩ z2).setCell ⟨g,3,none⟩ z3).setCell ⟨g,4,none⟩ z4).setCell ⟨g,5,none⟩ z5) :=
 ((qng h hg z0 z1 z2 z3).setCell hg z4).setCell hg z5
theorem qar {w:World} {g:Nat} {y0 y1 y2 y3 y4 y5:Value} {T:TypeId} (h:w.heap[g]?=some (.cells #[y0,y1,y2,y3,y4,y5] T (0,0))) :
 w.cell? ⟨g,0,none⟩=some y0∧w.cell? ⟨g,1,none⟩=some y1∧w.cell? ⟨g,2,none⟩=some y2∧w.cell? ⟨g,3,none⟩=some y3∧w.cell? ⟨g,4,none⟩=some y4∧w.cell? ⟨g,5,none⟩=some y5 :=
 ⟨(qab h 0).trans rfl,(qab h 1).trans rfl,(qab h 2).trans rfl,(qab h 3).trans rfl,(qab h 4).trans rfl,(qab h 5).trans rfl⟩
theorem qck {w:World} {g:Nat} {cs:Array Value} {T:TypeId} (h:w.heap[g]?=some (.cells cs T (0,0))) :
 w.frozen? ⟨g,0,none⟩=false∧w.frozen? ⟨g,1,none⟩=false∧w.frozen? ⟨g,2,none⟩=false∧w.frozen? ⟨g,3,none⟩=false∧w.frozen? ⟨g,4,none⟩=false∧w.frozen? ⟨g,5,none⟩=false :=
 ⟨Lib.frozen_of_heap h 0,Lib.frozen_of_heap h 1,Lib.frozen_of_heap h 2,Lib.frozen_of_heap h 3,Lib.frozen_of_heap h 4,Lib.frozen_of_heap h 5⟩
set_option maxHeartbeats 4000000 in
theorem qqo (s pc:ByteArray) (st:IS) (A0:Option Addr) (n0 c0:Nat) (w:World) (hp:st.r.pos≤s.size) (hs:s.size≤1000000) :
 Calls Tryz.prog 94 #[.agg (dI s st pc (.slice A0 n0 c0))] w fun e w'=>(∃ pc',e=.returned (.tuple #[.agg (dI s ((qif 300 (by decide)).rd s.data.toList st).1 pc' (.slice A0 n0 c0)),.string ⟨((qif 300 (by decide)).rd s.data.toList st).2.toArray⟩]))∧Below w.heap.size w w':=by
 rcases hR:qds s.data.toList 300 st.r with ⟨r',x⟩
 have hV:(qif 300 (by decide)).rd s.data.toList st=(⟨r',st.odd⟩,x):=by
  show ((⟨(qds s.data.toList 300 st.r).1,st.odd⟩:IS),(qds s.data.toList 300 st.r).2)=_
  rw [hR]
 rw [hV]
 have HT:Hid (∀ W,Calls Tryz.prog 144 #[.agg #[.string s,.int .i64 (st.r.pos:Int),.string pc,.int .i64 (st.r.e:Int)],.int .i64 300] W fun e w'=>InT s (r',x) W e w'):=fun W=>by
  have:=rText_any s pc st.r 300 W hp hs
  rw [hR] at this
  exact this
 have HX:Hid (((w.alloc (.cells #[.string s,.int .i64 (st.r.pos:Int),.string pc,.int .i64 (st.r.e:Int),.slice A0 n0 c0,.bool st.odd] 98)).alloc (.cells #[.string ⟨#[]⟩,.int .i64 0,.string ⟨#[]⟩,.int .i64 0,.slice none 0 0,.bool false] 98)).heap[w.heap.size]?=some (.cells #[.string s,.int .i64 (st.r.pos:Int),.string pc,.int .i64 (st.r.e:Int),.slice A0 n0 c0,.bool st.odd] 98 (0,0))):=((bel1 (w.alloc (.cells #[.string s,.int .i64 (st.r.pos:Int),.string pc,.int .i64 (st.r.e:Int),.slice A0 n0 c0,.bool st.odd] 98)) _).block _ (by simp)).trans (qah w _)
 have HY:Hid (((w.alloc (.cells #[.string s,.int .i64 (st.r.pos:Int),.string pc,.int .i64 (st.r.e:Int),.slice A0 n0 c0,.bool st.odd] 98)).alloc (.cells #[.string ⟨#[]⟩,.int .i64 0,.string ⟨#[]⟩,.int .i64 0,.slice none 0 0,.bool false] 98)).heap[w.heap.size + 1]?=some (.cells #[.string ⟨#[]⟩,.int .i64 0,.string ⟨#[]⟩,.int .i64 0,.slice none 0 0,.bool false] 98 (0,0))):=qcg w _ _
 have HB:=hI (qad (bel1 w (.cells #[.string s,.int .i64 (st.r.pos:Int),.string pc,.int .i64 (st.r.e:Int),.slice A0 n0 c0,.bool st.odd] 98)) (.cells #[.string ⟨#[]⟩,.int .i64 0,.string ⟨#[]⟩,.int .i64 0,.slice none 0 0,.bool false] 98))
 clear hV hR hp hs
 unfold dI
 go_enter Tryz.func94,Tryz.ntmps94
 go_wp2_with fail
 refine (HT.out _).mono ?_
 rintro _ w1 ⟨hb1,pc',rfl⟩
 have HX1:=hI ((hb1.block _ (qaa HX.out)).trans HX.out)
 have HY1:=hI ((hb1.block _ (qaa HY.out)).trans HY.out)
 have HB1:=hI (qac HB.out hb1)
 unfold inV
 dsimp only
 go_upto_region 2 with (fail)
 have HX2:=hI (qay HX1.out (.cells #[.string s,.int .i64 (r'.pos:Int),.string pc',.int .i64 (r'.e:Int)] 96))
 have HY2:=hI (qay HY1.out (.cells #[.string s,.int .i64 (r'.pos:Int),.string pc',.int .i64 (r'.e:Int)] 96))
 have HB2:=hI (qad HB1.out (.cells #[.string s,.int .i64 (r'.pos:Int),.string pc',.int .i64 (r'.e:Int)] 96))
 have HZ2:=hI (qah w1 (.cells #[.string s,.int .i64 (r'.pos:Int),.string pc',.int .i64 (r'.e:Int)] 96))
 obtain ⟨w2,hw2⟩:∃ W,W=w1.alloc (.cells #[.string s,.int .i64 (r'.pos:Int),.string pc',.int .i64 (r'.e:Int)] 96):=⟨_,rfl⟩
 rw [←hw2] at HX2 HY2 HB2 HZ2 ⊢
 obtain ⟨q,hq⟩:∃ q,q=w1.heap.size:=⟨_,rfl⟩
 have hqx:w.heap.size + 1 < q:=by rw [hq];exact qaa HY1.out
 rw [←hq] at HZ2 ⊢
 clear hw2 hq hb1 HX1 HY1 HB1 HX HY HB
 obtain ⟨c0',c1',c2',c3',c4',c5'⟩:=qar HX2.out
 obtain ⟨f0',f1',f2',f3',f4',f5'⟩:=qck HX2.out
 have z0:=(qab HZ2.out 0).trans rfl
 have z1:=(qab HZ2.out 1).trans rfl
 have z2:=(qab HZ2.out 2).trans rfl
 have z3:=(qab HZ2.out 3).trans rfl
 have hl:=qaa HX2.out
 go_upto_region 3 with (fail)
 have HX3:=hI (qlp HX2.out (.string s) (.int .i64 (r'.pos:Int)) (.string pc') (.int .i64 (r'.e:Int)))
 have HY3:=hI ((qbd (w:=w2) (g:=w.heap.size) (i:=w.heap.size + 1) (by omega) (.string s) (.int .i64 (r'.pos:Int)) (.string pc') (.int .i64 (r'.e:Int))).trans HY2.out)
 have HB3:=hI (qng HB2.out (Nat.le_refl _) (.string s) (.int .i64 (r'.pos:Int)) (.string pc') (.int .i64 (r'.e:Int)))
 obtain ⟨w3,hw3⟩:∃ W,W=((((w2.setCell ⟨w.heap.size,0,none⟩ (.string s)).setCell ⟨w.heap.size,1,none⟩ (.int .i64 (r'.pos:Int))).setCell ⟨w.heap.size,2,none⟩ (.string pc')).setCell ⟨w.heap.size,3,none⟩ (.int .i64 (r'.e:Int))):=⟨_,rfl⟩
 rw [←hw3] at HX3 HY3 HB3 ⊢
 clear hw3 c0' c1' c2' c3' c4' c5' f0' f1' f2' f3' f4' f5' z0 z1 z2 z3 hl HX2 HY2 HB2 HZ2
 obtain ⟨c0',c1',c2',c3',c4',c5'⟩:=qar HX3.out
 obtain ⟨d0',d1',d2',d3',d4',d5'⟩:=qar HY3.out
 obtain ⟨f0',f1',f2',f3',f4',f5'⟩:=qck HY3.out
 have hl:=qaa HY3.out
 go_wp2
 have hE:=qfk HY3.out (.string s) (.int .i64 (r'.pos:Int)) (.string pc') (.int .i64 (r'.e:Int)) (.slice A0 n0 c0) (.bool st.odd)
 obtain ⟨k0,k1,k2,k3,k4,k5⟩:=qar hE
 refine bodyPost_ret (v:=.tuple #[.agg #[.string s,.int .i64 (r'.pos:Int),.string pc',.int .i64 (r'.e:Int),.slice A0 n0 c0,.bool st.odd],.string ⟨x.toArray⟩]) (by simp [results,Tryz.results94,go_sem,k0,k1,k2,k3,k4,k5]) rfl ⟨⟨pc',rfl⟩,qgy HB3.out (Nat.le_succ _) _ _ _ _ _ _⟩
def qhq (n:Nat) (hn:0 < n) (s:ByteArray) (st:IS) (w:World) (e:Ending) (w':World):Prop :=
 ∃ pc A c,e=.returned (.agg (dI s ((rowC n hn).rd s.data.toList st).1 pc (.slice A (rowR s.data.toList 1000 st.r).2.length c)))∧RdI w'.heap.size w' A (ints (rowR s.data.toList 1000 st.r).2)∧((A=none→c=0)∧(rowR s.data.toList 1000 st.r).2.length≤c)∧Fr w.heap.size A∧Below w.heap.size w w'
theorem RdI.far {w w':World} {A:Option Addr} {d:Array Int} {m:Nat} (h:RdI w.heap.size w A d) (hA:Fr m A) (hs:w.heap.size≤w'.heap.size) (hk:∀ i,m≤i→i < w.heap.size→w'.heap[i]?=w.heap[i]?):RdI w'.heap.size w' A d:=fun h0=>by
 obtain ⟨g,off,e,hlt,hc⟩:=h h0
 have h1:=hA _ e
 exact ⟨g,off,e,Nat.lt_of_lt_of_le hlt hs,fun t ht=>(World.cell?_of_block (a:=⟨g,off + t,none⟩) (hk g h1 hlt)).trans (hc t ht)⟩
theorem qiy {w w':World} {base:Nat} {e:TypeId} {k n:Nat} {v:Value} {xs:List Value} (h:w.ownsRow base e k v n xs) (hk:∀ i,base≤i→i < w.heap.size→w'.heap[i]?=w.heap[i]?):w'.ownsRow base e k v n xs:=by
 refine ⟨h.1,?_⟩
 rcases h.2 with hn | ⟨g,cap,cur,rfl,hbg,hgg,rest⟩
 ·exact .inl hn
 ·exact .inr ⟨g,cap,cur,rfl,hbg,(hk g hbg (qaa hgg)).trans hgg,rest⟩
set_option maxHeartbeats 8000000 in
theorem drow1_any (s pc:ByteArray) (st:IS) (A0:Option Addr) (n0 c0:Nat) (w:World) (hp:st.r.pos≤s.size) (hs:s.size≤1000000) :
 Calls Tryz.prog 44 #[.agg (dI s st pc (.slice A0 n0 c0)),.int .i64 1] w fun e w'=>qhq 1 (by decide) s st w e w':=by
 rcases hR:rowR s.data.toList 1000 st.r with ⟨r',l⟩
 have hV:(rowC 1 (by decide)).rd s.data.toList st=(⟨r',st.odd || decide (l.length % 1≠0)⟩,grp 1 (l.length / 1) l):=by
  show ((⟨(rowR s.data.toList 1000 st.r).1,st.odd || decide ((rowR s.data.toList 1000 st.r).2.length % 1≠0)⟩:IS),grp 1 ((rowR s.data.toList 1000 st.r).2.length / 1) (rowR s.data.toList 1000 st.r).2)=_
  rw [hR]
 unfold qhq
 rw [hV,hR]
 have HT:Hid (∀ W,Calls Tryz.prog 95 #[.agg #[.string s,.int .i64 (st.r.pos:Int),.string pc,.int .i64 (st.r.e:Int)],.int .i64 1000] W fun e w'=>InR s (r',l) W e w'):=fun W=>by
  have:=qmf s pc st.r 1000 W hp hs (Nat.le_refl _)
  rw [hR] at this
  exact this
 have HX:Hid (((w.alloc (.cells #[.string s,.int .i64 (st.r.pos:Int),.string pc,.int .i64 (st.r.e:Int),.slice A0 n0 c0,.bool st.odd] 98)).alloc (.cells #[.string ⟨#[]⟩,.int .i64 0,.string ⟨#[]⟩,.int .i64 0,.slice none 0 0,.bool false] 98)).heap[w.heap.size]?=some (.cells #[.string s,.int .i64 (st.r.pos:Int),.string pc,.int .i64 (st.r.e:Int),.slice A0 n0 c0,.bool st.odd] 98 (0,0))):=((bel1 (w.alloc (.cells #[.string s,.int .i64 (st.r.pos:Int),.string pc,.int .i64 (st.r.e:Int),.slice A0 n0 c0,.bool st.odd] 98)) _).block _ (by simp)).trans (qah w _)
 have HY:Hid (((w.alloc (.cells #[.string s,.int .i64 (st.r.pos:Int),.string pc,.int .i64 (st.r.e:Int),.slice A0 n0 c0,.bool st.odd] 98)).alloc (.cells #[.string ⟨#[]⟩,.int .i64 0,.string ⟨#[]⟩,.int .i64 0,.slice none 0 0,.bool false] 98)).heap[w.heap.size + 1]?=some (.cells #[.string ⟨#[]⟩,.int .i64 0,.string ⟨#[]⟩,.int .i64 0,.slice none 0 0,.bool false] 98 (0,0))):=qcg w _ _
 have HB:=hI (qad (bel1 w (.cells #[.string s,.int .i64 (st.r.pos:Int),.string pc,.int .i64 (st.r.e:Int),.slice A0 n0 c0,.bool st.odd] 98)) (.cells #[.string ⟨#[]⟩,.int .i64 0,.string ⟨#[]⟩,.int .i64 0,.slice none 0 0,.bool false] 98))
 obtain ⟨od,hod⟩:∃ x,st.odd=x:=⟨_,rfl⟩
 rw [hod] at HX HY HB ⊢
 clear hV hR hp hs
 unfold dI
 simp only
 rw [hod]
 clear hod
 go_enter Tryz.func44,Tryz.ntmps44
 go_wp2_with fail
 refine (HT.out _).mono ?_
 rintro _ w1 ⟨hb1,pc',A,cp,rfl,hrd,hnc,hlo⟩
 simp only at hrd hnc
 have HX1:=hI ((hb1.block _ (qaa HX.out)).trans HX.out)
 have HY1:=hI ((hb1.block _ (qaa HY.out)).trans HY.out)
 have HB1:=hI (qac HB.out hb1)
 have HFA:Hid (Fr (w.heap.size + 2) A):=fun a ha=>by have:=hlo a ha;simp at this;omega
 have HNC:=hI hnc
 unfold inV
 dsimp only
 go_upto_region 2 with (fail)
 have HX2:=hI (qay HX1.out (.cells #[.string s,.int .i64 (r'.pos:Int),.string pc',.int .i64 (r'.e:Int)] 96))
 have HY2:=hI (qay HY1.out (.cells #[.string s,.int .i64 (r'.pos:Int),.string pc',.int .i64 (r'.e:Int)] 96))
 have HB2:=hI (qad HB1.out (.cells #[.string s,.int .i64 (r'.pos:Int),.string pc',.int .i64 (r'.e:Int)] 96))
 have HZ2:=hI (qah w1 (.cells #[.string s,.int .i64 (r'.pos:Int),.string pc',.int .i64 (r'.e:Int)] 96))
 have HR2:=hI (RdI.next hrd (bel1 w1 (.cells #[.string s,.int .i64 (r'.pos:Int),.string pc',.int .i64 (r'.e:Int)] 96)))
 obtain ⟨w2,hw2⟩:∃ W,W=w1.alloc (.cells #[.string s,.int .i64 (r'.pos:Int),.string pc',.int .i64 (r'.e:Int)] 96):=⟨_,rfl⟩
 rw [←hw2] at HX2 HY2 HB2 HZ2 HR2 ⊢
 obtain ⟨q,hq⟩:∃ q,q=w1.heap.size:=⟨_,rfl⟩
 have hqx:w.heap.size + 1 < q:=by rw [hq];exact qaa HY1.out
 rw [←hq] at HZ2 ⊢
 clear hw2 hq hb1 hrd hnc hlo HX1 HY1 HB1 HX HY HB
 obtain ⟨c0',c1',c2',c3',c4',c5'⟩:=qar HX2.out
 obtain ⟨f0',f1',f2',f3',f4',f5'⟩:=qck HX2.out
 have z0:=(qab HZ2.out 0).trans rfl
 have z1:=(qab HZ2.out 1).trans rfl
 have z2:=(qab HZ2.out 2).trans rfl
 have z3:=(qab HZ2.out 3).trans rfl
 have hl:=qaa HX2.out
 go_upto_region 3 with (fail)
 have HX3:=hI (qlp HX2.out (.string s) (.int .i64 (r'.pos:Int)) (.string pc') (.int .i64 (r'.e:Int)))
 have HY3:=hI ((qbd (w:=w2) (g:=w.heap.size) (i:=w.heap.size + 1) (by omega) (.string s) (.int .i64 (r'.pos:Int)) (.string pc') (.int .i64 (r'.e:Int))).trans HY2.out)
 have HB3:=hI (qng HB2.out (Nat.le_refl _) (.string s) (.int .i64 (r'.pos:Int)) (.string pc') (.int .i64 (r'.e:Int)))
 have HR3:=hI (HR2.out.far (w':=((((w2.setCell ⟨w.heap.size,0,none⟩ (.string s)).setCell ⟨w.heap.size,1,none⟩ (.int .i64 (r'.pos:Int))).setCell ⟨w.heap.size,2,none⟩ (.string pc')).setCell ⟨w.heap.size,3,none⟩ (.int .i64 (r'.e:Int)))) (m:=w.heap.size + 2) HFA.out (by simp) (fun i h1 h2=>qbd (by omega) _ _ _ _))
 obtain ⟨w3,hw3⟩:∃ W,W=((((w2.setCell ⟨w.heap.size,0,none⟩ (.string s)).setCell ⟨w.heap.size,1,none⟩ (.int .i64 (r'.pos:Int))).setCell ⟨w.heap.size,2,none⟩ (.string pc')).setCell ⟨w.heap.size,3,none⟩ (.int .i64 (r'.e:Int))):=⟨_,rfl⟩
 rw [←hw3] at HX3 HY3 HB3 HR3 ⊢
 clear hw3 c0' c1' c2' c3' c4' c5' f0' f1' f2' f3' f4' f5' z0 z1 z2 z3 hl HX2 HY2 HB2 HZ2 HR2
 have h1:decide (l.length % 1≠0)=false:=by rw [Nat.mod_one];rfl
 cases od
 ·have HOD:Hid ((false || decide (l.length % 1≠0))=false):=by show _=_;rw [h1];rfl
  clear h1
  obtain ⟨c0',c1',c2',c3',c4',c5'⟩:=qar HX3.out
  obtain ⟨f0',f1',f2',f3',f4',f5'⟩:=qck HX3.out
  have hl:=qaa HY3.out
  go_upto_region 5 with (fail)
  have HX5:=hI (qaj (qaj HX3.out 4 (.slice A l.length cp)) 5 (.bool false))
  have HY5:=hI ((Below.heap_setCell _ ⟨w.heap.size,5,none⟩ (.bool false) (w.heap.size + 1) (by simp)).trans ((Below.heap_setCell w3 ⟨w.heap.size,4,none⟩ (.slice A l.length cp) (w.heap.size + 1) (by simp)).trans HY3.out))
  have HB5:=hI ((HB3.out.setCell (p:=⟨w.heap.size,4,none⟩) (Nat.le_refl _) (.slice A l.length cp)).setCell (p:=⟨w.heap.size,5,none⟩) (Nat.le_refl _) (.bool false))
  have HR5:=hI (HR3.out.far (w':=(w3.setCell ⟨w.heap.size,4,none⟩ (.slice A l.length cp)).setCell ⟨w.heap.size,5,none⟩ (.bool false)) (m:=w.heap.size + 2) HFA.out (by simp) (fun i h1 h2=>(Below.heap_setCell _ _ _ i (by show i≠w.heap.size;omega)).trans (Below.heap_setCell _ _ _ i (by show i≠w.heap.size;omega))))
  obtain ⟨w5,hw5⟩:∃ W,W=(w3.setCell ⟨w.heap.size,4,none⟩ (.slice A l.length cp)).setCell ⟨w.heap.size,5,none⟩ (.bool false):=⟨_,rfl⟩
  rw [←hw5] at HX5 HY5 HB5 HR5 ⊢
  clear hw5 c0' c1' c2' c3' c4' c5' f0' f1' f2' f3' f4' f5' hl HX3 HY3 HB3 HR3
  obtain ⟨c0',c1',c2',c3',c4',c5'⟩:=qar HX5.out
  obtain ⟨d0',d1',d2',d3',d4',d5'⟩:=qar HY5.out
  obtain ⟨f0',f1',f2',f3',f4',f5'⟩:=qck HY5.out
  have hl:=qaa HY5.out
  go_wp2
  have hE:=qfk HY5.out (.string s) (.int .i64 (r'.pos:Int)) (.string pc') (.int .i64 (r'.e:Int)) (.slice A l.length cp) (.bool false)
  obtain ⟨k0,k1,k2,k3,k4,k5⟩:=qar hE
  refine bodyPost_ret (v:=.agg #[.string s,.int .i64 (r'.pos:Int),.string pc',.int .i64 (r'.e:Int),.slice A l.length cp,.bool false]) (by simp [results,Tryz.results44,go_sem,k0,k1,k2,k3,k4,k5]) rfl ⟨pc',A,cp,?_,?_,HNC.out,HFA.out.mono (by omega),qgy HB5.out (Nat.le_succ _) _ _ _ _ _ _⟩
  ·rw [HOD.out]
  ·refine HR5.out.far (m:=w.heap.size + 2) HFA.out (by simp) (fun i h1 h2=>?_)
   rw [Below.heap_setCell _ _ _ i (by show i≠w.heap.size + 1;omega),Below.heap_setCell _ _ _ i (by show i≠w.heap.size + 1;omega),qbd (by omega)]
 ·have HOD:Hid ((true || decide (l.length % 1≠0))=true):=rfl
  clear h1
  obtain ⟨c0',c1',c2',c3',c4',c5'⟩:=qar HX3.out
  obtain ⟨f0',f1',f2',f3',f4',f5'⟩:=qck HX3.out
  have hl:=qaa HY3.out
  go_upto_region 5 with (fail)
  have HX5:=hI (qaj (qaj HX3.out 4 (.slice A l.length cp)) 5 (.bool true))
  have HY5:=hI ((Below.heap_setCell _ ⟨w.heap.size,5,none⟩ (.bool true) (w.heap.size + 1) (by simp)).trans ((Below.heap_setCell w3 ⟨w.heap.size,4,none⟩ (.slice A l.length cp) (w.heap.size + 1) (by simp)).trans HY3.out))
  have HB5:=hI ((HB3.out.setCell (p:=⟨w.heap.size,4,none⟩) (Nat.le_refl _) (.slice A l.length cp)).setCell (p:=⟨w.heap.size,5,none⟩) (Nat.le_refl _) (.bool true))
  have HR5:=hI (HR3.out.far (w':=(w3.setCell ⟨w.heap.size,4,none⟩ (.slice A l.length cp)).setCell ⟨w.heap.size,5,none⟩ (.bool true)) (m:=w.heap.size + 2) HFA.out (by simp) (fun i h1 h2=>(Below.heap_setCell _ _ _ i (by show i≠w.heap.size;omega)).trans (Below.heap_setCell _ _ _ i (by show i≠w.heap.size;omega))))
  obtain ⟨w5,hw5⟩:∃ W,W=(w3.setCell ⟨w.heap.size,4,none⟩ (.slice A l.length cp)).setCell ⟨w.heap.size,5,none⟩ (.bool true):=⟨_,rfl⟩
  rw [←hw5] at HX5 HY5 HB5 HR5 ⊢
  clear hw5 c0' c1' c2' c3' c4' c5' f0' f1' f2' f3' f4' f5' hl HX3 HY3 HB3 HR3
  obtain ⟨c0',c1',c2',c3',c4',c5'⟩:=qar HX5.out
  obtain ⟨d0',d1',d2',d3',d4',d5'⟩:=qar HY5.out
  obtain ⟨f0',f1',f2',f3',f4',f5'⟩:=qck HY5.out
  have hl:=qaa HY5.out
  go_wp2
  have hE:=qfk HY5.out (.string s) (.int .i64 (r'.pos:Int)) (.string pc') (.int .i64 (r'.e:Int)) (.slice A l.length cp) (.bool true)
  obtain ⟨k0,k1,k2,k3,k4,k5⟩:=qar hE
  refine bodyPost_ret (v:=.agg #[.string s,.int .i64 (r'.pos:Int),.string pc',.int .i64 (r'.e:Int),.slice A l.length cp,.bool true]) (by simp [results,Tryz.results44,go_sem,k0,k1,k2,k3,k4,k5]) rfl ⟨pc',A,cp,?_,?_,HNC.out,HFA.out.mono (by omega),qgy HB5.out (Nat.le_succ _) _ _ _ _ _ _⟩
  ·rw [HOD.out]
  ·refine HR5.out.far (m:=w.heap.size + 2) HFA.out (by simp) (fun i h1 h2=>?_)
   rw [Below.heap_setCell _ _ _ i (by show i≠w.heap.size + 1;omega),Below.heap_setCell _ _ _ i (by show i≠w.heap.size + 1;omega),qbd (by omega)]
set_option maxHeartbeats 8000000 in
theorem qqp (s pc:ByteArray) (st:IS) (A0:Option Addr) (n0 c0:Nat) (w:World) (hp:st.r.pos≤s.size) (hs:s.size≤1000000) :
 Calls Tryz.prog 44 #[.agg (dI s st pc (.slice A0 n0 c0)),.int .i64 2] w fun e w'=>qhq 2 (by decide) s st w e w':=by
 rcases hR:rowR s.data.toList 1000 st.r with ⟨r',l⟩
 have hV:(rowC 2 (by decide)).rd s.data.toList st=(⟨r',st.odd || decide (l.length % 2≠0)⟩,grp 2 (l.length / 2) l):=by
  show ((⟨(rowR s.data.toList 1000 st.r).1,st.odd || decide ((rowR s.data.toList 1000 st.r).2.length % 2≠0)⟩:IS),grp 2 ((rowR s.data.toList 1000 st.r).2.length / 2) (rowR s.data.toList 1000 st.r).2)=_
  rw [hR]
 unfold qhq
 rw [hV,hR]
 have HT:Hid (∀ W,Calls Tryz.prog 95 #[.agg #[.string s,.int .i64 (st.r.pos:Int),.string pc,.int .i64 (st.r.e:Int)],.int .i64 1000] W fun e w'=>InR s (r',l) W e w'):=fun W=>by
  have:=qmf s pc st.r 1000 W hp hs (Nat.le_refl _)
  rw [hR] at this
  exact this
 have HX:Hid (((w.alloc (.cells #[.string s,.int .i64 (st.r.pos:Int),.string pc,.int .i64 (st.r.e:Int),.slice A0 n0 c0,.bool st.odd] 98)).alloc (.cells #[.string ⟨#[]⟩,.int .i64 0,.string ⟨#[]⟩,.int .i64 0,.slice none 0 0,.bool false] 98)).heap[w.heap.size]?=some (.cells #[.string s,.int .i64 (st.r.pos:Int),.string pc,.int .i64 (st.r.e:Int),.slice A0 n0 c0,.bool st.odd] 98 (0,0))):=((bel1 (w.alloc (.cells #[.string s,.int .i64 (st.r.pos:Int),.string pc,.int .i64 (st.r.e:Int),.slice A0 n0 c0,.bool st.odd] 98)) _).block _ (by simp)).trans (qah w _)
 have HY:Hid (((w.alloc (.cells #[.string s,.int .i64 (st.r.pos:Int),.string pc,.int .i64 (st.r.e:Int),.slice A0 n0 c0,.bool st.odd] 98)).alloc (.cells #[.string ⟨#[]⟩,.int .i64 0,.string ⟨#[]⟩,.int .i64 0,.slice none 0 0,.bool false] 98)).heap[w.heap.size + 1]?=some (.cells #[.string ⟨#[]⟩,.int .i64 0,.string ⟨#[]⟩,.int .i64 0,.slice none 0 0,.bool false] 98 (0,0))):=qcg w _ _
 have HB:=hI (qad (bel1 w (.cells #[.string s,.int .i64 (st.r.pos:Int),.string pc,.int .i64 (st.r.e:Int),.slice A0 n0 c0,.bool st.odd] 98)) (.cells #[.string ⟨#[]⟩,.int .i64 0,.string ⟨#[]⟩,.int .i64 0,.slice none 0 0,.bool false] 98))
 obtain ⟨od,hod⟩:∃ x,st.odd=x:=⟨_,rfl⟩
 rw [hod] at HX HY HB ⊢
 clear hV hR hp hs
 unfold dI
 simp only
 rw [hod]
 clear hod
 go_enter Tryz.func44,Tryz.ntmps44
 go_wp2_with fail
 refine (HT.out _).mono ?_
 rintro _ w1 ⟨hb1,pc',A,cp,rfl,hrd,hnc,hlo⟩
 simp only at hrd hnc
 have HX1:=hI ((hb1.block _ (qaa HX.out)).trans HX.out)
 have HY1:=hI ((hb1.block _ (qaa HY.out)).trans HY.out)
 have HB1:=hI (qac HB.out hb1)
 have HFA:Hid (Fr (w.heap.size + 2) A):=fun a ha=>by have:=hlo a ha;simp at this;omega
 have HNC:=hI hnc
 unfold inV
 dsimp only
 go_upto_region 2 with (fail)
 have HX2:=hI (qay HX1.out (.cells #[.string s,.int .i64 (r'.pos:Int),.string pc',.int .i64 (r'.e:Int)] 96))
 have HY2:=hI (qay HY1.out (.cells #[.string s,.int .i64 (r'.pos:Int),.string pc',.int .i64 (r'.e:Int)] 96))
 have HB2:=hI (qad HB1.out (.cells #[.string s,.int .i64 (r'.pos:Int),.string pc',.int .i64 (r'.e:Int)] 96))
 have HZ2:=hI (qah w1 (.cells #[.string s,.int .i64 (r'.pos:Int),.string pc',.int .i64 (r'.e:Int)] 96))
 have HR2:=hI (RdI.next hrd (bel1 w1 (.cells #[.string s,.int .i64 (r'.pos:Int),.string pc',.int .i64 (r'.e:Int)] 96)))
 obtain ⟨w2,hw2⟩:∃ W,W=w1.alloc (.cells #[.string s,.int .i64 (r'.pos:Int),.string pc',.int .i64 (r'.e:Int)] 96):=⟨_,rfl⟩
 rw [←hw2] at HX2 HY2 HB2 HZ2 HR2 ⊢
 obtain ⟨q,hq⟩:∃ q,q=w1.heap.size:=⟨_,rfl⟩
 have hqx:w.heap.size + 1 < q:=by rw [hq];exact qaa HY1.out
 rw [←hq] at HZ2 ⊢
 clear hw2 hq hb1 hrd hnc hlo HX1 HY1 HB1 HX HY HB
 obtain ⟨c0',c1',c2',c3',c4',c5'⟩:=qar HX2.out
 obtain ⟨f0',f1',f2',f3',f4',f5'⟩:=qck HX2.out
 have z0:=(qab HZ2.out 0).trans rfl
 have z1:=(qab HZ2.out 1).trans rfl
 have z2:=(qab HZ2.out 2).trans rfl
 have z3:=(qab HZ2.out 3).trans rfl
 have hl:=qaa HX2.out
 go_upto_region 3 with (fail)
 have HX3:=hI (qlp HX2.out (.string s) (.int .i64 (r'.pos:Int)) (.string pc') (.int .i64 (r'.e:Int)))
 have HY3:=hI ((qbd (w:=w2) (g:=w.heap.size) (i:=w.heap.size + 1) (by omega) (.string s) (.int .i64 (r'.pos:Int)) (.string pc') (.int .i64 (r'.e:Int))).trans HY2.out)
 have HB3:=hI (qng HB2.out (Nat.le_refl _) (.string s) (.int .i64 (r'.pos:Int)) (.string pc') (.int .i64 (r'.e:Int)))
 have HR3:=hI (HR2.out.far (w':=((((w2.setCell ⟨w.heap.size,0,none⟩ (.string s)).setCell ⟨w.heap.size,1,none⟩ (.int .i64 (r'.pos:Int))).setCell ⟨w.heap.size,2,none⟩ (.string pc')).setCell ⟨w.heap.size,3,none⟩ (.int .i64 (r'.e:Int)))) (m:=w.heap.size + 2) HFA.out (by simp) (fun i h1 h2=>qbd (by omega) _ _ _ _))
 obtain ⟨w3,hw3⟩:∃ W,W=((((w2.setCell ⟨w.heap.size,0,none⟩ (.string s)).setCell ⟨w.heap.size,1,none⟩ (.int .i64 (r'.pos:Int))).setCell ⟨w.heap.size,2,none⟩ (.string pc')).setCell ⟨w.heap.size,3,none⟩ (.int .i64 (r'.e:Int))):=⟨_,rfl⟩
 rw [←hw3] at HX3 HY3 HB3 HR3 ⊢
 clear hw3 c0' c1' c2' c3' c4' c5' f0' f1' f2' f3' f4' f5' z0 z1 z2 z3 hl HX2 HY2 HB2 HZ2 HR2
 cases od
 ·by_cases hpr:l.length % 2=0
  ·have hr1:((l.length:Int) % 2 != 0)=false:=by
    have:(l.length:Int) % 2=0:=by omega
    rw [this];rfl
   have HOD:Hid ((false || decide (l.length % 2≠0))=false):=by show _=_;simp [hpr]
   clear hpr
   obtain ⟨c0',c1',c2',c3',c4',c5'⟩:=qar HX3.out
   obtain ⟨f0',f1',f2',f3',f4',f5'⟩:=qck HX3.out
   have hl:=qaa HY3.out
   go_upto_region 5 with (fail)
   have HX5:=hI (qaj (qaj HX3.out 4 (.slice A l.length cp)) 5 (.bool false))
   have HY5:=hI ((Below.heap_setCell _ ⟨w.heap.size,5,none⟩ (.bool false) (w.heap.size + 1) (by simp)).trans ((Below.heap_setCell w3 ⟨w.heap.size,4,none⟩ (.slice A l.length cp) (w.heap.size + 1) (by simp)).trans HY3.out))
   have HB5:=hI ((HB3.out.setCell (p:=⟨w.heap.size,4,none⟩) (Nat.le_refl _) (.slice A l.length cp)).setCell (p:=⟨w.heap.size,5,none⟩) (Nat.le_refl _) (.bool false))
   have HR5:=hI (HR3.out.far (w':=(w3.setCell ⟨w.heap.size,4,none⟩ (.slice A l.length cp)).setCell ⟨w.heap.size,5,none⟩ (.bool false)) (m:=w.heap.size + 2) HFA.out (by simp) (fun i h1 h2=>(Below.heap_setCell _ _ _ i (by show i≠w.heap.size;omega)).trans (Below.heap_setCell _ _ _ i (by show i≠w.heap.size;omega))))
   obtain ⟨w5,hw5⟩:∃ W,W=(w3.setCell ⟨w.heap.size,4,none⟩ (.slice A l.length cp)).setCell ⟨w.heap.size,5,none⟩ (.bool false):=⟨_,rfl⟩
   rw [←hw5] at HX5 HY5 HB5 HR5 ⊢
   clear hw5 c0' c1' c2' c3' c4' c5' f0' f1' f2' f3' f4' f5' hl HX3 HY3 HB3 HR3
   obtain ⟨c0',c1',c2',c3',c4',c5'⟩:=qar HX5.out
   obtain ⟨d0',d1',d2',d3',d4',d5'⟩:=qar HY5.out
   obtain ⟨f0',f1',f2',f3',f4',f5'⟩:=qck HY5.out
   have hl:=qaa HY5.out
   go_wp2
   have hE:=qfk HY5.out (.string s) (.int .i64 (r'.pos:Int)) (.string pc') (.int .i64 (r'.e:Int)) (.slice A l.length cp) (.bool false)
   obtain ⟨k0,k1,k2,k3,k4,k5⟩:=qar hE
   refine bodyPost_ret (v:=.agg #[.string s,.int .i64 (r'.pos:Int),.string pc',.int .i64 (r'.e:Int),.slice A l.length cp,.bool false]) (by simp [results,Tryz.results44,go_sem,k0,k1,k2,k3,k4,k5]) rfl ⟨pc',A,cp,?_,?_,HNC.out,HFA.out.mono (by omega),qgy HB5.out (Nat.le_succ _) _ _ _ _ _ _⟩
   ·rw [HOD.out]
   ·refine HR5.out.far (m:=w.heap.size + 2) HFA.out (by simp) (fun i h1 h2=>?_)
    rw [Below.heap_setCell _ _ _ i (by show i≠w.heap.size + 1;omega),Below.heap_setCell _ _ _ i (by show i≠w.heap.size + 1;omega),qbd (by omega)]
  ·have hr1:((l.length:Int) % 2 != 0)=true:=by
    have:(l.length:Int) % 2≠0:=by omega
    simpa [bne] using this
   have HOD:Hid ((false || decide (l.length % 2≠0))=true):=by show _=_;simp [hpr]
   clear hpr
   obtain ⟨c0',c1',c2',c3',c4',c5'⟩:=qar HX3.out
   obtain ⟨f0',f1',f2',f3',f4',f5'⟩:=qck HX3.out
   have hl:=qaa HY3.out
   go_upto_region 5 with (fail)
   have HX5:=hI (qaj (qaj HX3.out 4 (.slice A l.length cp)) 5 (.bool true))
   have HY5:=hI ((Below.heap_setCell _ ⟨w.heap.size,5,none⟩ (.bool true) (w.heap.size + 1) (by simp)).trans ((Below.heap_setCell w3 ⟨w.heap.size,4,none⟩ (.slice A l.length cp) (w.heap.size + 1) (by simp)).trans HY3.out))
   have HB5:=hI ((HB3.out.setCell (p:=⟨w.heap.size,4,none⟩) (Nat.le_refl _) (.slice A l.length cp)).setCell (p:=⟨w.heap.size,5,none⟩) (Nat.le_refl _) (.bool true))
   have HR5:=hI (HR3.out.far (w':=(w3.setCell ⟨w.heap.size,4,none⟩ (.slice A l.length cp)).setCell ⟨w.heap.size,5,none⟩ (.bool true)) (m:=w.heap.size + 2) HFA.out (by simp) (fun i h1 h2=>(Below.heap_setCell _ _ _ i (by show i≠w.heap.size;omega)).trans (Below.heap_setCell _ _ _ i (by show i≠w.heap.size;omega))))
   obtain ⟨w5,hw5⟩:∃ W,W=(w3.setCell ⟨w.heap.size,4,none⟩ (.slice A l.length cp)).setCell ⟨w.heap.size,5,none⟩ (.bool true):=⟨_,rfl⟩
   rw [←hw5] at HX5 HY5 HB5 HR5 ⊢
   clear hw5 c0' c1' c2' c3' c4' c5' f0' f1' f2' f3' f4' f5' hl HX3 HY3 HB3 HR3
   obtain ⟨c0',c1',c2',c3',c4',c5'⟩:=qar HX5.out
   obtain ⟨d0',d1',d2',d3',d4',d5'⟩:=qar HY5.out
   obtain ⟨f0',f1',f2',f3',f4',f5'⟩:=qck HY5.out
   have hl:=qaa HY5.out
   go_wp2
   have hE:=qfk HY5.out (.string s) (.int .i64 (r'.pos:Int)) (.string pc') (.int .i64 (r'.e:Int)) (.slice A l.length cp) (.bool true)
   obtain ⟨k0,k1,k2,k3,k4,k5⟩:=qar hE
   refine bodyPost_ret (v:=.agg #[.string s,.int .i64 (r'.pos:Int),.string pc',.int .i64 (r'.e:Int),.slice A l.length cp,.bool true]) (by simp [results,Tryz.results44,go_sem,k0,k1,k2,k3,k4,k5]) rfl ⟨pc',A,cp,?_,?_,HNC.out,HFA.out.mono (by omega),qgy HB5.out (Nat.le_succ _) _ _ _ _ _ _⟩
   ·rw [HOD.out]
   ·refine HR5.out.far (m:=w.heap.size + 2) HFA.out (by simp) (fun i h1 h2=>?_)
    rw [Below.heap_setCell _ _ _ i (by show i≠w.heap.size + 1;omega),Below.heap_setCell _ _ _ i (by show i≠w.heap.size + 1;omega),qbd (by omega)]
 ·have HOD:Hid ((true || decide (l.length % 2≠0))=true):=rfl
  obtain ⟨c0',c1',c2',c3',c4',c5'⟩:=qar HX3.out
  obtain ⟨f0',f1',f2',f3',f4',f5'⟩:=qck HX3.out
  have hl:=qaa HY3.out
  go_upto_region 5 with (fail)
  have HX5:=hI (qaj (qaj HX3.out 4 (.slice A l.length cp)) 5 (.bool true))
  have HY5:=hI ((Below.heap_setCell _ ⟨w.heap.size,5,none⟩ (.bool true) (w.heap.size + 1) (by simp)).trans ((Below.heap_setCell w3 ⟨w.heap.size,4,none⟩ (.slice A l.length cp) (w.heap.size + 1) (by simp)).trans HY3.out))
  have HB5:=hI ((HB3.out.setCell (p:=⟨w.heap.size,4,none⟩) (Nat.le_refl _) (.slice A l.length cp)).setCell (p:=⟨w.heap.size,5,none⟩) (Nat.le_refl _) (.bool true))
  have HR5:=hI (HR3.out.far (w':=(w3.setCell ⟨w.heap.size,4,none⟩ (.slice A l.length cp)).setCell ⟨w.heap.size,5,none⟩ (.bool true)) (m:=w.heap.size + 2) HFA.out (by simp) (fun i h1 h2=>(Below.heap_setCell _ _ _ i (by show i≠w.heap.size;omega)).trans (Below.heap_setCell _ _ _ i (by show i≠w.heap.size;omega))))
  obtain ⟨w5,hw5⟩:∃ W,W=(w3.setCell ⟨w.heap.size,4,none⟩ (.slice A l.length cp)).setCell ⟨w.heap.size,5,none⟩ (.bool true):=⟨_,rfl⟩
  rw [←hw5] at HX5 HY5 HB5 HR5 ⊢
  clear hw5 c0' c1' c2' c3' c4' c5' f0' f1' f2' f3' f4' f5' hl HX3 HY3 HB3 HR3
  obtain ⟨c0',c1',c2',c3',c4',c5'⟩:=qar HX5.out
  obtain ⟨d0',d1',d2',d3',d4',d5'⟩:=qar HY5.out
  obtain ⟨f0',f1',f2',f3',f4',f5'⟩:=qck HY5.out
  have hl:=qaa HY5.out
  go_wp2
  have hE:=qfk HY5.out (.string s) (.int .i64 (r'.pos:Int)) (.string pc') (.int .i64 (r'.e:Int)) (.slice A l.length cp) (.bool true)
  obtain ⟨k0,k1,k2,k3,k4,k5⟩:=qar hE
  refine bodyPost_ret (v:=.agg #[.string s,.int .i64 (r'.pos:Int),.string pc',.int .i64 (r'.e:Int),.slice A l.length cp,.bool true]) (by simp [results,Tryz.results44,go_sem,k0,k1,k2,k3,k4,k5]) rfl ⟨pc',A,cp,?_,?_,HNC.out,HFA.out.mono (by omega),qgy HB5.out (Nat.le_succ _) _ _ _ _ _ _⟩
  ·rw [HOD.out]
  ·refine HR5.out.far (m:=w.heap.size + 2) HFA.out (by simp) (fun i h1 h2=>?_)
   rw [Below.heap_setCell _ _ _ i (by show i≠w.heap.size + 1;omega),Below.heap_setCell _ _ _ i (by show i≠w.heap.size + 1;omega),qbd (by omega)]
set_option maxHeartbeats 8000000 in
theorem drow6_any (s pc:ByteArray) (st:IS) (A0:Option Addr) (n0 c0:Nat) (w:World) (hp:st.r.pos≤s.size) (hs:s.size≤1000000) :
 Calls Tryz.prog 44 #[.agg (dI s st pc (.slice A0 n0 c0)),.int .i64 6] w fun e w'=>qhq 6 (by decide) s st w e w':=by
 rcases hR:rowR s.data.toList 1000 st.r with ⟨r',l⟩
 have hV:(rowC 6 (by decide)).rd s.data.toList st=(⟨r',st.odd || decide (l.length % 6≠0)⟩,grp 6 (l.length / 6) l):=by
  show ((⟨(rowR s.data.toList 1000 st.r).1,st.odd || decide ((rowR s.data.toList 1000 st.r).2.length % 6≠0)⟩:IS),grp 6 ((rowR s.data.toList 1000 st.r).2.length / 6) (rowR s.data.toList 1000 st.r).2)=_
  rw [hR]
 unfold qhq
 rw [hV,hR]
 have HT:Hid (∀ W,Calls Tryz.prog 95 #[.agg #[.string s,.int .i64 (st.r.pos:Int),.string pc,.int .i64 (st.r.e:Int)],.int .i64 1000] W fun e w'=>InR s (r',l) W e w'):=fun W=>by
  have:=qmf s pc st.r 1000 W hp hs (Nat.le_refl _)
  rw [hR] at this
  exact this
 have HX:Hid (((w.alloc (.cells #[.string s,.int .i64 (st.r.pos:Int),.string pc,.int .i64 (st.r.e:Int),.slice A0 n0 c0,.bool st.odd] 98)).alloc (.cells #[.string ⟨#[]⟩,.int .i64 0,.string ⟨#[]⟩,.int .i64 0,.slice none 0 0,.bool false] 98)).heap[w.heap.size]?=some (.cells #[.string s,.int .i64 (st.r.pos:Int),.string pc,.int .i64 (st.r.e:Int),.slice A0 n0 c0,.bool st.odd] 98 (0,0))):=((bel1 (w.alloc (.cells #[.string s,.int .i64 (st.r.pos:Int),.string pc,.int .i64 (st.r.e:Int),.slice A0 n0 c0,.bool st.odd] 98)) _).block _ (by simp)).trans (qah w _)
 have HY:Hid (((w.alloc (.cells #[.string s,.int .i64 (st.r.pos:Int),.string pc,.int .i64 (st.r.e:Int),.slice A0 n0 c0,.bool st.odd] 98)).alloc (.cells #[.string ⟨#[]⟩,.int .i64 0,.string ⟨#[]⟩,.int .i64 0,.slice none 0 0,.bool false] 98)).heap[w.heap.size + 1]?=some (.cells #[.string ⟨#[]⟩,.int .i64 0,.string ⟨#[]⟩,.int .i64 0,.slice none 0 0,.bool false] 98 (0,0))):=qcg w _ _
 have HB:=hI (qad (bel1 w (.cells #[.string s,.int .i64 (st.r.pos:Int),.string pc,.int .i64 (st.r.e:Int),.slice A0 n0 c0,.bool st.odd] 98)) (.cells #[.string ⟨#[]⟩,.int .i64 0,.string ⟨#[]⟩,.int .i64 0,.slice none 0 0,.bool false] 98))
 obtain ⟨od,hod⟩:∃ x,st.odd=x:=⟨_,rfl⟩
 rw [hod] at HX HY HB ⊢
 clear hV hR hp hs
 unfold dI
 simp only
 rw [hod]
 clear hod
 go_enter Tryz.func44,Tryz.ntmps44
 go_wp2_with fail
 refine (HT.out _).mono ?_
 rintro _ w1 ⟨hb1,pc',A,cp,rfl,hrd,hnc,hlo⟩
 simp only at hrd hnc
 have HX1:=hI ((hb1.block _ (qaa HX.out)).trans HX.out)
 have HY1:=hI ((hb1.block _ (qaa HY.out)).trans HY.out)
 have HB1:=hI (qac HB.out hb1)
 have HFA:Hid (Fr (w.heap.size + 2) A):=fun a ha=>by have:=hlo a ha;simp at this;omega
 have HNC:=hI hnc
 unfold inV
 dsimp only
 go_upto_region 2 with (fail)
 have HX2:=hI (qay HX1.out (.cells #[.string s,.int .i64 (r'.pos:Int),.string pc',.int .i64 (r'.e:Int)] 96))
 have HY2:=hI (qay HY1.out (.cells #[.string s,.int .i64 (r'.pos:Int),.string pc',.int .i64 (r'.e:Int)] 96))
 have HB2:=hI (qad HB1.out (.cells #[.string s,.int .i64 (r'.pos:Int),.string pc',.int .i64 (r'.e:Int)] 96))
 have HZ2:=hI (qah w1 (.cells #[.string s,.int .i64 (r'.pos:Int),.string pc',.int .i64 (r'.e:Int)] 96))
 have HR2:=hI (RdI.next hrd (bel1 w1 (.cells #[.string s,.int .i64 (r'.pos:Int),.string pc',.int .i64 (r'.e:Int)] 96)))
 obtain ⟨w2,hw2⟩:∃ W,W=w1.alloc (.cells #[.string s,.int .i64 (r'.pos:Int),.string pc',.int .i64 (r'.e:Int)] 96):=⟨_,rfl⟩
 rw [←hw2] at HX2 HY2 HB2 HZ2 HR2 ⊢
 obtain ⟨q,hq⟩:∃ q,q=w1.heap.size:=⟨_,rfl⟩
 have hqx:w.heap.size + 1 < q:=by rw [hq];exact qaa HY1.out
 rw [←hq] at HZ2 ⊢
 clear hw2 hq hb1 hrd hnc hlo HX1 HY1 HB1 HX HY HB
 obtain ⟨c0',c1',c2',c3',c4',c5'⟩:=qar HX2.out
 obtain ⟨f0',f1',f2',f3',f4',f5'⟩:=qck HX2.out
 have z0:=(qab HZ2.out 0).trans rfl
 have z1:=(qab HZ2.out 1).trans rfl
 have z2:=(qab HZ2.out 2).trans rfl
 have z3:=(qab HZ2.out 3).trans rfl
 have hl:=qaa HX2.out
 go_upto_region 3 with (fail)
 have HX3:=hI (qlp HX2.out (.string s) (.int .i64 (r'.pos:Int)) (.string pc') (.int .i64 (r'.e:Int)))
 have HY3:=hI ((qbd (w:=w2) (g:=w.heap.size) (i:=w.heap.size + 1) (by omega) (.string s) (.int .i64 (r'.pos:Int)) (.string pc') (.int .i64 (r'.e:Int))).trans HY2.out)
 have HB3:=hI (qng HB2.out (Nat.le_refl _) (.string s) (.int .i64 (r'.pos:Int)) (.string pc') (.int .i64 (r'.e:Int)))
 have HR3:=hI (HR2.out.far (w':=((((w2.setCell ⟨w.heap.size,0,none⟩ (.string s)).setCell ⟨w.heap.size,1,none⟩ (.int .i64 (r'.pos:Int))).setCell ⟨w.heap.size,2,none⟩ (.string pc')).setCell ⟨w.heap.size,3,none⟩ (.int .i64 (r'.e:Int)))) (m:=w.heap.size + 2) HFA.out (by simp) (fun i h1 h2=>qbd (by omega) _ _ _ _))
 obtain ⟨w3,hw3⟩:∃ W,W=((((w2.setCell ⟨w.heap.size,0,none⟩ (.string s)).setCell ⟨w.heap.size,1,none⟩ (.int .i64 (r'.pos:Int))).setCell ⟨w.heap.size,2,none⟩ (.string pc')).setCell ⟨w.heap.size,3,none⟩ (.int .i64 (r'.e:Int))):=⟨_,rfl⟩
 rw [←hw3] at HX3 HY3 HB3 HR3 ⊢
 clear hw3 c0' c1' c2' c3' c4' c5' f0' f1' f2' f3' f4' f5' z0 z1 z2 z3 hl HX2 HY2 HB2 HZ2 HR2
 cases od
 ·by_cases hpr:l.length % 6=0
  ·have hr1:((l.length:Int) % 6 != 0)=false:=by
    have:(l.length:Int) % 6=0:=by omega
    rw [this];rfl
   have HOD:Hid ((false || decide (l.length % 6≠0))=false):=by show _=_;simp [hpr]
   clear hpr
   obtain ⟨c0',c1',c2',c3',c4',c5'⟩:=qar HX3.out
   obtain ⟨f0',f1',f2',f3',f4',f5'⟩:=qck HX3.out
   have hl:=qaa HY3.out
   go_upto_region 5 with (fail)
   have HX5:=hI (qaj (qaj HX3.out 4 (.slice A l.length cp)) 5 (.bool false))
   have HY5:=hI ((Below.heap_setCell _ ⟨w.heap.size,5,none⟩ (.bool false) (w.heap.size + 1) (by simp)).trans ((Below.heap_setCell w3 ⟨w.heap.size,4,none⟩ (.slice A l.length cp) (w.heap.size + 1) (by simp)).trans HY3.out))
   have HB5:=hI ((HB3.out.setCell (p:=⟨w.heap.size,4,none⟩) (Nat.le_refl _) (.slice A l.length cp)).setCell (p:=⟨w.heap.size,5,none⟩) (Nat.le_refl _) (.bool false))
   have HR5:=hI (HR3.out.far (w':=(w3.setCell ⟨w.heap.size,4,none⟩ (.slice A l.length cp)).setCell ⟨w.heap.size,5,none⟩ (.bool false)) (m:=w.heap.size + 2) HFA.out (by simp) (fun i h1 h2=>(Below.heap_setCell _ _ _ i (by show i≠w.heap.size;omega)).trans (Below.heap_setCell _ _ _ i (by show i≠w.heap.size;omega))))
   obtain ⟨w5,hw5⟩:∃ W,W=(w3.setCell ⟨w.heap.size,4,none⟩ (.slice A l.length cp)).setCell ⟨w.heap.size,5,none⟩ (.bool false):=⟨_,rfl⟩
   rw [←hw5] at HX5 HY5 HB5 HR5 ⊢
   clear hw5 c0' c1' c2' c3' c4' c5' f0' f1' f2' f3' f4' f5' hl HX3 HY3 HB3 HR3
   obtain ⟨c0',c1',c2',c3',c4',c5'⟩:=qar HX5.out
   obtain ⟨d0',d1',d2',d3',d4',d5'⟩:=qar HY5.out
   obtain ⟨f0',f1',f2',f3',f4',f5'⟩:=qck HY5.out
   have hl:=qaa HY5.out
   go_wp2
   have hE:=qfk HY5.out (.string s) (.int .i64 (r'.pos:Int)) (.string pc') (.int .i64 (r'.e:Int)) (.slice A l.length cp) (.bool false)
   obtain ⟨k0,k1,k2,k3,k4,k5⟩:=qar hE
   refine bodyPost_ret (v:=.agg #[.string s,.int .i64 (r'.pos:Int),.string pc',.int .i64 (r'.e:Int),.slice A l.length cp,.bool false]) (by simp [results,Tryz.results44,go_sem,k0,k1,k2,k3,k4,k5]) rfl ⟨pc',A,cp,?_,?_,HNC.out,HFA.out.mono (by omega),qgy HB5.out (Nat.le_succ _) _ _ _ _ _ _⟩
   ·rw [HOD.out]
   ·refine HR5.out.far (m:=w.heap.size + 2) HFA.out (by simp) (fun i h1 h2=>?_)
    rw [Below.heap_setCell _ _ _ i (by show i≠w.heap.size + 1;omega),Below.heap_setCell _ _ _ i (by show i≠w.heap.size + 1;omega),qbd (by omega)]
  ·have hr1:((l.length:Int) % 6 != 0)=true:=by
    have:(l.length:Int) % 6≠0:=by omega
    simpa [bne] using this
   have HOD:Hid ((false || decide (l.length % 6≠0))=true):=by show _=_;simp [hpr]
   clear hpr
   obtain ⟨c0',c1',c2',c3',c4',c5'⟩:=qar HX3.out
   obtain ⟨f0',f1',f2',f3',f4',f5'⟩:=qck HX3.out
   have hl:=qaa HY3.out
   go_upto_region 5 with (fail)
   have HX5:=hI (qaj (qaj HX3.out 4 (.slice A l.length cp)) 5 (.bool true))
   have HY5:=hI ((Below.heap_setCell _ ⟨w.heap.size,5,none⟩ (.bool true) (w.heap.size + 1) (by simp)).trans ((Below.heap_setCell w3 ⟨w.heap.size,4,none⟩ (.slice A l.length cp) (w.heap.size + 1) (by simp)).trans HY3.out))
   have HB5:=hI ((HB3.out.setCell (p:=⟨w.heap.size,4,none⟩) (Nat.le_refl _) (.slice A l.length cp)).setCell (p:=⟨w.heap.size,5,none⟩) (Nat.le_refl _) (.bool true))
   have HR5:=hI (HR3.out.far (w':=(w3.setCell ⟨w.heap.size,4,none⟩ (.slice A l.length cp)).setCell ⟨w.heap.size,5,none⟩ (.bool true)) (m:=w.heap.size + 2) HFA.out (by simp) (fun i h1 h2=>(Below.heap_setCell _ _ _ i (by show i≠w.heap.size;omega)).trans (Below.heap_setCell _ _ _ i (by show i≠w.heap.size;omega))))
   obtain ⟨w5,hw5⟩:∃ W,W=(w3.setCell ⟨w.heap.size,4,none⟩ (.slice A l.length cp)).setCell ⟨w.heap.size,5,none⟩ (.bool true):=⟨_,rfl⟩
   rw [←hw5] at HX5 HY5 HB5 HR5 ⊢
   clear hw5 c0' c1' c2' c3' c4' c5' f0' f1' f2' f3' f4' f5' hl HX3 HY3 HB3 HR3
   obtain ⟨c0',c1',c2',c3',c4',c5'⟩:=qar HX5.out
   obtain ⟨d0',d1',d2',d3',d4',d5'⟩:=qar HY5.out
   obtain ⟨f0',f1',f2',f3',f4',f5'⟩:=qck HY5.out
   have hl:=qaa HY5.out
   go_wp2
   have hE:=qfk HY5.out (.string s) (.int .i64 (r'.pos:Int)) (.string pc') (.int .i64 (r'.e:Int)) (.slice A l.length cp) (.bool true)
   obtain ⟨k0,k1,k2,k3,k4,k5⟩:=qar hE
   refine bodyPost_ret (v:=.agg #[.string s,.int .i64 (r'.pos:Int),.string pc',.int .i64 (r'.e:Int),.slice A l.length cp,.bool true]) (by simp [results,Tryz.results44,go_sem,k0,k1,k2,k3,k4,k5]) rfl ⟨pc',A,cp,?_,?_,HNC.out,HFA.out.mono (by omega),qgy HB5.out (Nat.le_succ _) _ _ _ _ _ _⟩
   ·rw [HOD.out]
   ·refine HR5.out.far (m:=w.heap.size + 2) HFA.out (by simp) (fun i h1 h2=>?_)
    rw [Below.heap_setCell _ _ _ i (by show i≠w.heap.size + 1;omega),Below.heap_setCell _ _ _ i (by show i≠w.heap.size + 1;omega),qbd (by omega)]
 ·have HOD:Hid ((true || decide (l.length % 6≠0))=true):=rfl
  obtain ⟨c0',c1',c2',c3',c4',c5'⟩:=qar HX3.out
  obtain ⟨f0',f1',f2',f3',f4',f5'⟩:=qck HX3.out
  have hl:=qaa HY3.out
  go_upto_region 5 with (fail)
  have HX5:=hI (qaj (qaj HX3.out 4 (.slice A l.length cp)) 5 (.bool true))
  have HY5:=hI ((Below.heap_setCell _ ⟨w.heap.size,5,none⟩ (.bool true) (w.heap.size + 1) (by simp)).trans ((Below.heap_setCell w3 ⟨w.heap.size,4,none⟩ (.slice A l.length cp) (w.heap.size + 1) (by simp)).trans HY3.out))
  have HB5:=hI ((HB3.out.setCell (p:=⟨w.heap.size,4,none⟩) (Nat.le_refl _) (.slice A l.length cp)).setCell (p:=⟨w.heap.size,5,none⟩) (Nat.le_refl _) (.bool true))
  have HR5:=hI (HR3.out.far (w':=(w3.setCell ⟨w.heap.size,4,none⟩ (.slice A l.length cp)).setCell ⟨w.heap.size,5,none⟩ (.bool true)) (m:=w.heap.size + 2) HFA.out (by simp) (fun i h1 h2=>(Below.heap_setCell _ _ _ i (by show i≠w.heap.size;omega)).trans (Below.heap_setCell _ _ _ i (by show i≠w.heap.size;omega))))
  obtain ⟨w5,hw5⟩:∃ W,W=(w3.setCell ⟨w.heap.size,4,none⟩ (.slice A l.length cp)).setCell ⟨w.heap.size,5,none⟩ (.bool true):=⟨_,rfl⟩
  rw [←hw5] at HX5 HY5 HB5 HR5 ⊢
  clear hw5 c0' c1' c2' c3' c4' c5' f0' f1' f2' f3' f4' f5' hl HX3 HY3 HB3 HR3
  obtain ⟨c0',c1',c2',c3',c4',c5'⟩:=qar HX5.out
  obtain ⟨d0',d1',d2',d3',d4',d5'⟩:=qar HY5.out
  obtain ⟨f0',f1',f2',f3',f4',f5'⟩:=qck HY5.out
  have hl:=qaa HY5.out
  go_wp2
  have hE:=qfk HY5.out (.string s) (.int .i64 (r'.pos:Int)) (.string pc') (.int .i64 (r'.e:Int)) (.slice A l.length cp) (.bool true)
  obtain ⟨k0,k1,k2,k3,k4,k5⟩:=qar hE
  refine bodyPost_ret (v:=.agg #[.string s,.int .i64 (r'.pos:Int),.string pc',.int .i64 (r'.e:Int),.slice A l.length cp,.bool true]) (by simp [results,Tryz.results44,go_sem,k0,k1,k2,k3,k4,k5]) rfl ⟨pc',A,cp,?_,?_,HNC.out,HFA.out.mono (by omega),qgy HB5.out (Nat.le_succ _) _ _ _ _ _ _⟩
  ·rw [HOD.out]
  ·refine HR5.out.far (m:=w.heap.size + 2) HFA.out (by simp) (fun i h1 h2=>?_)
   rw [Below.heap_setCell _ _ _ i (by show i≠w.heap.size + 1;omega),Below.heap_setCell _ _ _ i (by show i≠w.heap.size + 1;omega),qbd (by omega)]
end Go.Proofs.YtnmojicfmcbgmaaGreatDoor
namespace Go.Proofs.YtnmojicfmcbgmaaGreatDoor
open Go.RowKit Go.Sort Go.Lib Nb
set_option maxRecDepth 100000
def qiz (s:ByteArray) (m:Nat) (r:IS×List Nat) (w:World) (e:Ending) (w':World):Prop :=
 ∃ pc A c,e=.returned (.agg (dI s r.1 pc (.slice A m c)))∧RdI w'.heap.size w' A (ints r.2)∧((A=none→c=0)∧m≤c)∧Fr w.heap.size A∧Below w.heap.size w w'
theorem ints_push (l:List Nat) (x:Nat):(((l ++ [x]).map Int.ofNat).map (Value.int .i64))=((l.map Int.ofNat).map (Value.int .i64)) ++ [.int .i64 (x:Int)]:=by simp
theorem qdo {w:World} {base:Nat} {e:TypeId} {k n:Nat} {v:Value} {xs:List Value} (h:w.ownsRow base e k v n xs):∃ A c,v=.slice A n c:=by
 obtain ⟨_,⟨rfl,h0⟩ | ⟨g,cap,cur,rfl,_⟩⟩:=h
 ·exact ⟨none,0,by rw [h0]⟩
 ·exact ⟨_,_,rfl⟩
theorem numC_pos {most:Nat} {hm:most≤9223372036854775807} {s:List UInt8} {k:Nat} {st:IS} (h:st.r.pos≤s.length):(qan ((numC most hm).rd s) k st).1.r.pos≤s.length:=((numC most hm).vec k).far s st h
set_option maxHeartbeats 8000000 in
theorem qep (s pc:ByteArray) (st:IS) (A0:Option Addr) (n0 c0 m most:Nat) (hmost:most≤9223372036854775807) (w:World) (hp:st.r.pos≤s.size) (hs:s.size≤1000000) (hm:m≤9) :
 Calls Tryz.prog 42 #[.agg (dI s st pc (.slice A0 n0 c0)),.int .i64 m,.int .i64 most] w fun e w'=>qiz s m (qan ((numC most hmost).rd s.data.toList) m st) w e w':=by
 obtain ⟨i0,hi0,hz0,hz1,hz2⟩:=info_parts qfg
 have hsl:s.data.toList.length=s.size:=by simp
 have HT:Hid (∀ (x:IS) (pc:ByteArray) W,x.r.pos≤s.size→Calls Tryz.prog 93 #[.agg #[.string s,.int .i64 (x.r.pos:Int),.string pc,.int .i64 (x.r.e:Int)],.int .i64 most] W fun e w'=>InP s (numR s.data.toList most x.r) W e w'):=fun x pc W h=>rNum_any s pc x.r most W h hs
 have HPO:Hid (∀ k,(qan ((numC most hmost).rd s.data.toList) k st).1.r.pos≤s.size):=fun k=>by rw [←hsl];exact numC_pos (by rw [hsl];exact hp)
 have HOD:Hid (∀ k,(qan ((numC most hmost).rd s.data.toList) k st).1.odd=st.odd):=fun k=>by
  induction k with
  | zero=>rfl
  | succ k ih=>rw [qcm];exact ih
 have HX:Hid (((w.alloc (.cells #[.string s,.int .i64 (st.r.pos:Int),.string pc,.int .i64 (st.r.e:Int),.slice none 0 0,.bool st.odd] 98)).alloc (.cells #[.string ⟨#[]⟩,.int .i64 0,.string ⟨#[]⟩,.int .i64 0,.slice none 0 0,.bool false] 98)).heap[w.heap.size]?=some (.cells #[.string s,.int .i64 (st.r.pos:Int),.string pc,.int .i64 (st.r.e:Int),.slice none 0 0,.bool st.odd] 98 (0,0))):=qay (qah w _) _
 have HY:Hid (((w.alloc (.cells #[.string s,.int .i64 (st.r.pos:Int),.string pc,.int .i64 (st.r.e:Int),.slice none 0 0,.bool st.odd] 98)).alloc (.cells #[.string ⟨#[]⟩,.int .i64 0,.string ⟨#[]⟩,.int .i64 0,.slice none 0 0,.bool false] 98)).heap[w.heap.size + 1]?=some (.cells #[.string ⟨#[]⟩,.int .i64 0,.string ⟨#[]⟩,.int .i64 0,.slice none 0 0,.bool false] 98 (0,0))):=qcg w _ _
 have HB:Hid (Below w.heap.size w ((w.alloc (.cells #[.string s,.int .i64 (st.r.pos:Int),.string pc,.int .i64 (st.r.e:Int),.slice none 0 0,.bool st.odd] 98)).alloc (.cells #[.string ⟨#[]⟩,.int .i64 0,.string ⟨#[]⟩,.int .i64 0,.slice none 0 0,.bool false] 98))):=qad (bel1 w (.cells #[.string s,.int .i64 (st.r.pos:Int),.string pc,.int .i64 (st.r.e:Int),.slice none 0 0,.bool st.odd] 98)) (.cells #[.string ⟨#[]⟩,.int .i64 0,.string ⟨#[]⟩,.int .i64 0,.slice none 0 0,.bool false] 98)
 clear hp hs hsl
 unfold dI
 go_enter Tryz.func42,Tryz.ntmps42
 go_wp2_with fail
 obtain ⟨wI,hwI⟩:∃ W,W=((w.alloc (.cells #[.string s,.int .i64 (st.r.pos:Int),.string pc,.int .i64 (st.r.e:Int),.slice none 0 0,.bool st.odd] 98)).alloc (.cells #[.string ⟨#[]⟩,.int .i64 0,.string ⟨#[]⟩,.int .i64 0,.slice none 0 0,.bool false] 98)):=⟨_,rfl⟩
 rw [←hwI] at HX HY HB ⊢
 clear hwI
 go_loopw [7] (fun i W=>∃ (k:Nat) (pc:ByteArray) (v:Value),i=.int .i64 (k:Int)∧k≤m∧Hid (W.heap[w.heap.size]?=some (.cells (dI s (qan ((numC most hmost).rd s.data.toList) k st).1 pc v) 98 (0,0)))∧Hid (W.heap[w.heap.size + 1]?=some (.cells #[.string ⟨#[]⟩,.int .i64 0,.string ⟨#[]⟩,.int .i64 0,.slice none 0 0,.bool false] 98 (0,0))) ∧
  W.ownsRow (w.heap.size + 2) 3 1 v (qan ((numC most hmost).rd s.data.toList) k st).2.length (((qan ((numC most hmost).rd s.data.toList) k st).2.map Int.ofNat).map (Value.int .i64))∧Hid (Below w.heap.size w W)) (fun i _=>m - (intOf i).toNat)
 case atStart=>exact ⟨0,pc,.slice none 0 0,rfl,Nat.zero_le _,HX,HY,World.ownsRow_nil _ _ _ _,HB⟩
 case round =>
  obtain ⟨k,pk,v,rfl,hk,HXr,HYr,hown,HBr⟩:=hrel
  have hlen:=qet ((numC most hmost).rd s.data.toList) k st
  by_cases hlt:k < m
  ·have kz:(k:Int) < (m:Int):=by omega
   have HSN:=hI (qcm ((numC most hmost).rd s.data.toList) k st)
   have HPk:=hI (HPO.out k)
   obtain ⟨sk,hsk⟩:∃ x,(qan ((numC most hmost).rd s.data.toList) k st).1=x:=⟨_,rfl⟩
   obtain ⟨lk,hlk⟩:∃ x,(qan ((numC most hmost).rd s.data.toList) k st).2=x:=⟨_,rfl⟩
   rw [hsk] at HXr HSN HPk
   rw [hlk] at hown HSN hlen
   rcases hR:numR s.data.toList most sk.r with ⟨r',x⟩
   have hV:(numC most hmost).rd s.data.toList sk=(⟨r',sk.odd⟩,x):=by
    show ((⟨(numR s.data.toList most sk.r).1,sk.odd⟩:IS),(numR s.data.toList most sk.r).2)=_
    rw [hR]
   rw [hV] at HSN
   have HTk:=hI (fun W=>HT.out sk pk W HPk.out)
   rw [hR] at HTk
   unfold dI at HXr
   obtain ⟨c0',c1',c2',c3',c4',c5'⟩:=qar HXr.out
   have hl0:=qaa HXr.out
   clear hsk hlk hR hV
   go_wp2_with fail
   refine (HTk.out _).mono ?_
   rintro _ w1 ⟨hb1,pc',rfl⟩
   have HX1:=hI ((hb1.block _ (qaa HXr.out)).trans HXr.out)
   have HY1:=hI ((hb1.block _ (qaa HYr.out)).trans HYr.out)
   have HB1:=hI (qac HBr.out hb1)
   have hown1:=qbj hown hb1
   unfold inV
   dsimp only
   clear c0' c1' c2' c3' c4' c5' hown HTk
   go_upto_region 6 with (fail)
   have HX2:=hI (qay HX1.out (.cells #[.string s,.int .i64 (r'.pos:Int),.string pc',.int .i64 (r'.e:Int)] 96))
   have HY2:=hI (qay HY1.out (.cells #[.string s,.int .i64 (r'.pos:Int),.string pc',.int .i64 (r'.e:Int)] 96))
   have HB2:=hI (qad HB1.out (.cells #[.string s,.int .i64 (r'.pos:Int),.string pc',.int .i64 (r'.e:Int)] 96))
   have HZ2:=hI (qah w1 (.cells #[.string s,.int .i64 (r'.pos:Int),.string pc',.int .i64 (r'.e:Int)] 96))
   have hown2:=qbj hown1 (bel1 w1 (.cells #[.string s,.int .i64 (r'.pos:Int),.string pc',.int .i64 (r'.e:Int)] 96))
   obtain ⟨w2,hw2⟩:∃ W,W=w1.alloc (.cells #[.string s,.int .i64 (r'.pos:Int),.string pc',.int .i64 (r'.e:Int)] 96):=⟨_,rfl⟩
   rw [←hw2] at HX2 HY2 HB2 HZ2 hown2 ⊢
   obtain ⟨q,hq⟩:∃ q,q=w1.heap.size:=⟨_,rfl⟩
   have hqx:w.heap.size + 1 < q:=by rw [hq];exact qaa HY1.out
   rw [←hq] at HZ2 ⊢
   clear hw2 hq hb1 HX1 HY1 HB1 hown1 hl0
   obtain ⟨c0',c1',c2',c3',c4',c5'⟩:=qar HX2.out
   obtain ⟨f0',f1',f2',f3',f4',f5'⟩:=qck HX2.out
   have z0:=(qab HZ2.out 0).trans rfl
   have z1:=(qab HZ2.out 1).trans rfl
   have z2:=(qab HZ2.out 2).trans rfl
   have z3:=(qab HZ2.out 3).trans rfl
   have hl:=qaa HX2.out
   go_upto_region 7 with (fail)
   have HX3:=hI (qlp HX2.out (.string s) (.int .i64 (r'.pos:Int)) (.string pc') (.int .i64 (r'.e:Int)))
   have HY3:=hI ((qbd (w:=w2) (g:=w.heap.size) (i:=w.heap.size + 1) (by omega) (.string s) (.int .i64 (r'.pos:Int)) (.string pc') (.int .i64 (r'.e:Int))).trans HY2.out)
   have HB3:=hI (qng HB2.out (Nat.le_refl _) (.string s) (.int .i64 (r'.pos:Int)) (.string pc') (.int .i64 (r'.e:Int)))
   have hown3:=qiy (w':=((((w2.setCell ⟨w.heap.size,0,none⟩ (.string s)).setCell ⟨w.heap.size,1,none⟩ (.int .i64 (r'.pos:Int))).setCell ⟨w.heap.size,2,none⟩ (.string pc')).setCell ⟨w.heap.size,3,none⟩ (.int .i64 (r'.e:Int)))) hown2 (fun i h1 h2=>qbd (by omega) _ _ _ _)
   obtain ⟨w3,hw3⟩:∃ W,W=((((w2.setCell ⟨w.heap.size,0,none⟩ (.string s)).setCell ⟨w.heap.size,1,none⟩ (.int .i64 (r'.pos:Int))).setCell ⟨w.heap.size,2,none⟩ (.string pc')).setCell ⟨w.heap.size,3,none⟩ (.int .i64 (r'.e:Int))):=⟨_,rfl⟩
   rw [←hw3] at HX3 HY3 HB3 hown3 ⊢
   clear hw3 c0' c1' c2' c3' c4' c5' f0' f1' f2' f3' f4' f5' z0 z1 z2 z3 hl HX2 HY2 HB2 HZ2 hown2
   obtain ⟨c0',c1',c2',c3',c4',c5'⟩:=qar HX3.out
   have hl:=qaa HY3.out
   have hown4:=qbj hown3 (bel1 w3 (.cells #[.int .i64 (x:Int)] 3))
   have HB4:=hI (qad HB3.out (.cells #[.int .i64 (x:Int)] 3))
   have HX4:=hI (qay HX3.out (.cells #[.int .i64 (x:Int)] 3))
   have HY4:=hI (qay HY3.out (.cells #[.int .i64 (x:Int)] 3))
   have hlk9:lk.length≤9:=by omega
   clear hlen
   go_wp2_with (at_builtin;refine wpList_append_own _ rfl _ _ 26 rfl (w.heap.size + 2) 3 i0 (.int .i64 0) 1 8 Tryz.underlying26 hi0 hz0 hz1 hz2 rfl (by decide) _ _ _ rfl hown4 ⟨w3.heap.size,0,none⟩ 1 1 [.int .i64 (x:Int)] rfl rfl (qcl w3 _ _) (by simp [Value.oneCell']) (by unfold maxLen;omega) (by omega) (by simp;omega) ?_;intro v' w5 hown5 hgrow _;have HG5:Hid (∀ i,i < w.heap.size + 2→w5.heap[i]?=(w3.alloc (.cells #[.int .i64 (x:Int)] 3)).heap[i]?):=(fun i hi=>hgrow.block i (by simp;omega) (by intro e;have:=(hown4.lt i e.symm).1;omega));have HX5:=hI ((HG5.out w.heap.size (by omega)).trans HX4.out);have HY5:=hI ((HG5.out (w.heap.size + 1) (by omega)).trans HY4.out);have HB5:Hid (Below w.heap.size w w5):=⟨hgrow.os.trans HB4.out.os,hgrow.tape.trans HB4.out.tape,hgrow.output.trans HB4.out.output,Nat.le_trans HB4.out.size hgrow.size,fun i hi=>(HG5.out i (by omega)).trans (HB4.out.block i hi)⟩;have cc4:=(qar HX5.out).2.2.2.2.1;have ff4:=Lib.frozen_of_heap HX5.out 4;obtain ⟨Av,cv,rfl⟩:=qdo hown5)
   go_roundw
   case rel =>
    refine ⟨k + 1,pc',.slice Av (lk.length + 1) cv,by go_num,by omega,?_,?_,?_,?_⟩
    ·rw [HSN.out]
     exact hI (qaj HX5.out 4 _)
    ·exact hI ((Below.heap_setCell w5 ⟨w.heap.size,4,none⟩ _ (w.heap.size + 1) (by simp)).trans HY5.out)
    ·rw [HSN.out]
     simp only
     rw [ints_push,List.length_append]
     exact qiy hown5 (fun i h1 h2=>Below.heap_setCell w5 ⟨w.heap.size,4,none⟩ _ i (by show i≠w.heap.size;omega))
    ·exact hI (HB5.out.setCell (p:=⟨w.heap.size,4,none⟩) (Nat.le_refl _) _)
   case measure=>simp [intOf];omega
  ·have kz:decide ((k:Int) < (m:Int))=false:=decide_eq_false (by omega)
   have hkm:k=m:=by omega
   subst hkm
   obtain ⟨A,c,rfl,hrd,hnc,hlo⟩:=RdI.of_owns (xs:=(qan ((numC most hmost).rd s.data.toList) k st).2.map Int.ofNat) (by rw [List.length_map];exact hown)
   have HFA:Hid (Fr (w.heap.size + 2) A):=hlo
   have HRD:Hid (RdI wr.heap.size wr A (ints (qan ((numC most hmost).rd s.data.toList) k st).2)):=hrd
   have HNC:Hid ((A=none→c=0)∧k≤c):=⟨hnc.1,by have:=hnc.2;rw [List.length_map,hlen] at this;exact this⟩
   rw [List.length_map,hlen] at HXr
   have HOk:=hI (HOD.out k)
   obtain ⟨sk,hsk⟩:∃ x,(qan ((numC most hmost).rd s.data.toList) k st).1=x:=⟨_,rfl⟩
   obtain ⟨lk,hlk⟩:∃ x,(qan ((numC most hmost).rd s.data.toList) k st).2=x:=⟨_,rfl⟩
   rw [hsk] at HXr HOk
   rw [hlk] at HRD
   have HSK:=hI hsk
   have HLK:=hI hlk
   unfold dI at HXr
   clear hrd hnc hlo hown hsk hlk hlen hlt
   obtain ⟨c0',c1',c2',c3',c4',c5'⟩:=qar HXr.out
   obtain ⟨d0',d1',d2',d3',d4',d5'⟩:=qar HYr.out
   obtain ⟨f0',f1',f2',f3',f4',f5'⟩:=qck HYr.out
   have hl:=qaa HYr.out
   go_wp2
   have hE:=qfk HYr.out (.string s) (.int .i64 (sk.r.pos:Int)) (.string pk) (.int .i64 (sk.r.e:Int)) (.slice A k c) (.bool sk.odd)
   obtain ⟨k0,k1,k2,k3,k4,k5⟩:=qar hE
   refine bodyPost_ret (v:=.agg #[.string s,.int .i64 (sk.r.pos:Int),.string pk,.int .i64 (sk.r.e:Int),.slice A k c,.bool sk.odd]) (by simp [results,Tryz.results42,go_sem,k0,k1,k2,k3,k4,k5]) rfl ?_
   unfold qiz
   rw [HSK.out,HLK.out]
   refine ⟨pk,A,c,rfl,?_,HNC.out,HFA.out.mono (by omega),qgy HBr.out (Nat.le_succ _) _ _ _ _ _ _⟩
   refine HRD.out.far (m:=w.heap.size + 2) HFA.out (by simp) (fun i h1 h2=>?_)
   rw [Below.heap_setCell _ _ _ i (by show i≠w.heap.size + 1;omega),Below.heap_setCell _ _ _ i (by show i≠w.heap.size + 1;omega),qbd (by omega)]
end Go.Proofs.YtnmojicfmcbgmaaGreatDoor
namespace Go.Proofs.YtnmojicfmcbgmaaGreatDoor
open Go.RowKit Go.Sort Go.Lib Nb
set_option maxRecDepth 100000
def ToP {α:Type} [Inhabited α] (en:α→List Value) (k:Nat) (z:Array α) (w:World) (e:Ending) (w':World):Prop :=
 ∃ A c,e=.returned (.slice A z.size c)∧RdK en k w'.heap.size w' A z∧z.size≤c∧(A=none→c=0)∧Fr w.heap.size A∧Below w.heap.size w w'
theorem qeg {w:World} {g:Nat} {xs:List Value} {e:TypeId} (h:w.heap[g]?=some (.cells xs.toArray e (0,0))):∀ j u,xs[j]?=some u→w.cell? ((⟨g,0,none⟩:Addr).add j)=some u:=by
 intro j u hj
 rw [Addr.add_lit,Nat.zero_add,qab h,List.getElem?_toArray]
 exact hj
theorem wrap_X {x:Int} (h0 : -9223372036854775808≤x) (h1:x≤9223372036854775807):IntKind.i64.wrap x=x:=by
 rw [IntKind.wrap_i64]
 omega
set_option maxHeartbeats 4000000 in
theorem qvi (A:Option Addr) (c:Nat) (l:List Nat) (w:World) (hr:RdI w.heap.size w A (ints l)) (hll:l.length≤1000) :
 Calls Tryz.prog 45 #[.slice A l.length c] w fun e w'=>ToP qbe 2 (qai (grp 2 (l.length / 2) l)) w e w':=by
 obtain ⟨i0,hi0,hz0,hz1,hz2⟩:=info_parts infoA_X
 have HR:=hI hr
 clear hr
 go_enter Tryz.func45,Tryz.ntmps45
 go_wp2_with fail
 go_loopw [3,4] (fun v i W=>∃ k q:Nat,i=.int .i64 (q:Int)∧Hid (q=k * 2)∧k * 2≤l.length∧W.ownsRow w.heap.size 29 2 v (qai (grp 2 k l)).size (flatK qbe 2 (qai (grp 2 k l))).toList∧Hid (Below w.heap.size w W)) (fun _ i _=>l.length + 2 - (intOf i).toNat)
 case atStart=>exact ⟨0,0,rfl,hI (by simp),by omega,qda _ _ _ _ _,hI (Below.refl _ _)⟩
 case round =>
  obtain ⟨k,q,rfl,HQ,hk,hown,HB⟩:=hrel
  have hsz:(qai (grp 2 k l)).size=k:=by unfold qai;simp [qig]
  rw [hsz] at hown
  have hqb:q≤1000:=by have:=HQ.out;omega
  by_cases hlt:q + 2≤l.length
  ·have kz:(q:Int) + 1 < (l.length:Int):=by omega
   have kz2:(q:Int) < (l.length:Int):=by omega
   have hw1:IntKind.i64.wrap ((q:Int) + 1)=(q:Int) + 1:=wrap_X (by omega) (by omega)
   have hw3:(0:Int)≤(q:Int) + 1:=by omega
   have hw2:((q:Int) + 1).toNat=q + 1:=by omega
   have kq:k * 2 + 2≤l.length:=by have:=HQ.out;omega
   obtain ⟨b1,off,rfl,hbl,f⟩:=HR.out (by rw [qao];omega)
   have hG:=hI (grp_snoc 2 k l)
   have e0:w.cell? ⟨b1,off + q,none⟩=some (.int .i64 ((l.getD (q + 0) 0:Nat):Int)):=by rw [show off + q=off + (q + 0) by omega,f (q + 0) (by rw [qao];omega),qbo (by omega)]
   have e1:w.cell? ⟨b1,off + (q + 1),none⟩=some (.int .i64 ((l.getD (q + 1) 0:Nat):Int)):=by rw [f (q + 1) (by rw [qao];omega),qbo (by omega)]
   have HS:Hid ((qai (grp 2 (k + 1) l))=(qai (grp 2 k l)).push (((l.getD (q + 0) 0:Nat):Int),((l.getD (q + 1) 0:Nat):Int))):=by
    show _=_
    rw [hG.out]
    unfold qai
    rw [List.map_append,List.map_cons,List.map_nil]
    unfold toP
    rw [qcc (j:=0) kq (by decide),qcc (j:=1) kq (by decide),←HQ.out]
    simp
   obtain ⟨y0,hy0⟩:∃ y:Int,((l.getD (q + 0) 0:Nat):Int)=y:=⟨_,rfl⟩
   rw [hy0] at e0 HS
   clear hy0
   obtain ⟨y1,hy1⟩:∃ y:Int,((l.getD (q + 1) 0:Nat):Int)=y:=⟨_,rfl⟩
   rw [hy1] at e1 HS
   clear hy1 f
   have KS:Hid (∀ W,Below w.heap.size w W→W.cell? ⟨b1,off + q,none⟩=some (.int .i64 y0)∧W.cell? ⟨b1,off + (q + 1),none⟩=some (.int .i64 y1)):=fun W hb=>⟨(hb.cell (p:=⟨b1,off + q,none⟩) hbl).trans e0,(hb.cell (p:=⟨b1,off + (q + 1),none⟩) hbl).trans e1⟩
   clear e0 e1
   have HBa:=hI (qad HB.out.drew (.cells #[.int .i64 y0,.int .i64 y1] 29))
   have hown2:=qbj hown (qad (Below.refl wr.heap.size wr).drew (.cells #[.int .i64 y0,.int .i64 y1] 29))
   go_wp2_with fail
   refine qat (S:=fun W=>W.cell? ⟨b1,off + q,none⟩=some (.int .i64 y0)∧W.cell? ⟨b1,off + (q + 1),none⟩=some (.int .i64 y1)) (by kernel_rfl) ?_
   have hS:=KS.out _ HB.out.drew
   refine tkF 12 0 rfl rfl hS ?_
   simp only [Act.put,sA,s0,s1]
   refine tkF 13 1 rfl rfl hS ?_
   simp only [Act.put,sA,s0,s1]
   refine tkF 14 2 rfl rfl hS ?_
   simp only [Act.put,sA,s0,s1]
   refine tkF 15 3 rfl rfl hS ?_
   simp only [Act.put,sA,s0,s1]
   refine tkF 16 4 rfl rfl hS ?_
   simp only [Act.put,sA,s0,s1]
   refine tkF 17 5 rfl rfl hS ?_
   simp only [Act.put,sA,s0,s1]
   refine tkF 18 6 rfl rfl hS ?_
   simp only [Act.put,sA,s0,s1]
   refine tkF 19 7 rfl rfl hS ?_
   simp only [Act.put,sA,s0,s1]
   refine tkF 20 8 rfl rfl hS ?_
   simp only [Act.put,sA,s0,s1]
   refine tkF 21 9 rfl rfl hS ?_
   simp only [Act.put,sA,s0,s1]
   refine tkF 22 10 rfl rfl hS ?_
   simp only [Act.put,sA,s0,s1]
   refine rdy1 11 rfl (fun K hK=>?_)
   go_simp
   refine hK.out _ _ (KS.out _ HBa.out) (fun _=>?_)
   clear hK K
   refine rdy1 12 rfl (fun K hK=>?_)
   refine qdb (by rfl) _ _ _ (by rfl) w 29 i0 (.agg #[.int .i64 0,.int .i64 0]) 2 16 Tryz.underlying23 hi0 hz0 hz1 hz2 rfl (by decide) _ k (flatK qbe 2 (qai (grp 2 k l))).toList (by rfl) hown2 ⟨wr.heap.size,0,none⟩ 1 1 [.int .i64 y0,.int .i64 y1] (by rfl) (by rfl) (qeg (qah wr.drew _)) (by simp [Value.oneCell']) (by unfold maxLen;omega) (by omega) HBa.out ?_
   intro v' w5 hown5 _ hBw
   have HBW:=hI hBw
   refine hK.out _ _ (KS.out _ hBw) (fun _=>?_)
   clear hK K hBw
   have hS:=KS.out _ HBW.out
   refine tkF 3 13 rfl rfl hS ?_
   simp only [Act.put,List.setIfInBounds_toArray]
   refine qas (by kernel_rfl) ?_ _
   go_wp2
   go_roundw
   case rel =>
    refine ⟨k + 1,q + 2,by go_num,hI (by have:=HQ.out;omega),by omega,?_,HBW⟩
    rw [HS.out,Array.size_push,hsz,qcr (enc:=qbe) (k:=2) (fun _=>rfl)]
    exact hown5
   case measure=>simp [intOf];omega
  ·have kz:decide ((q:Int) + 1 < (l.length:Int))=false:=decide_eq_false (by omega)
   have hkd:l.length / 2=k:=by have:=HQ.out;omega
   obtain ⟨A3,c3,rfl,h1,h2,h3,h4⟩:=qeo (d:=qai (grp 2 k l)) (by rw [hsz];exact hown)
   have HK:=hI hkd
   have HRE:=hI (And.intro h1 (And.intro h2 (And.intro h3 h4)))
   clear hkd h1 h2 h3 h4 hown hsz hlt
   go_wp2
   go_ret
   rw [HK.out]
   exact ⟨A3,c3,rfl,HRE.out.1,HRE.out.2.1,HRE.out.2.2.1,HRE.out.2.2.2,HB.out⟩
set_option maxHeartbeats 4000000 in
theorem qvj (A:Option Addr) (c:Nat) (l:List Nat) (w:World) (hr:RdI w.heap.size w A (ints l)) (hll:l.length≤1000) :
 Calls Tryz.prog 96 #[.slice A l.length c] w fun e w'=>ToP encR 2 (qai (grp 2 (l.length / 2) l)) w e w':=by
 obtain ⟨i0,hi0,hz0,hz1,hz2⟩:=info_parts infoR_X
 have HR:=hI hr
 clear hr
 go_enter Tryz.func96,Tryz.ntmps96
 go_wp2_with fail
 go_loopw [3,4] (fun v i W=>∃ k q:Nat,i=.int .i64 (q:Int)∧Hid (q=k * 2)∧k * 2≤l.length∧W.ownsRow w.heap.size 141 2 v (qai (grp 2 k l)).size (flatK encR 2 (qai (grp 2 k l))).toList∧Hid (Below w.heap.size w W)) (fun _ i _=>l.length + 2 - (intOf i).toNat)
 case atStart=>exact ⟨0,0,rfl,hI (by simp),by omega,qda _ _ _ _ _,hI (Below.refl _ _)⟩
 case round =>
  obtain ⟨k,q,rfl,HQ,hk,hown,HB⟩:=hrel
  have hsz:(qai (grp 2 k l)).size=k:=by unfold qai;simp [qig]
  rw [hsz] at hown
  have hqb:q≤1000:=by have:=HQ.out;omega
  by_cases hlt:q + 2≤l.length
  ·have kz:(q:Int) + 1 < (l.length:Int):=by omega
   have kz2:(q:Int) < (l.length:Int):=by omega
   have hw1:IntKind.i64.wrap ((q:Int) + 1)=(q:Int) + 1:=wrap_X (by omega) (by omega)
   have hw3:(0:Int)≤(q:Int) + 1:=by omega
   have hw2:((q:Int) + 1).toNat=q + 1:=by omega
   have kq:k * 2 + 2≤l.length:=by have:=HQ.out;omega
   obtain ⟨b1,off,rfl,hbl,f⟩:=HR.out (by rw [qao];omega)
   have hG:=hI (grp_snoc 2 k l)
   have e0:w.cell? ⟨b1,off + q,none⟩=some (.int .i64 ((l.getD (q + 0) 0:Nat):Int)):=by rw [show off + q=off + (q + 0) by omega,f (q + 0) (by rw [qao];omega),qbo (by omega)]
   have e1:w.cell? ⟨b1,off + (q + 1),none⟩=some (.int .i64 ((l.getD (q + 1) 0:Nat):Int)):=by rw [f (q + 1) (by rw [qao];omega),qbo (by omega)]
   have HS:Hid ((qai (grp 2 (k + 1) l))=(qai (grp 2 k l)).push (((l.getD (q + 0) 0:Nat):Int),((l.getD (q + 1) 0:Nat):Int))):=by
    show _=_
    rw [hG.out]
    unfold qai
    rw [List.map_append,List.map_cons,List.map_nil]
    unfold toP
    rw [qcc (j:=0) kq (by decide),qcc (j:=1) kq (by decide),←HQ.out]
    simp
   obtain ⟨y0,hy0⟩:∃ y:Int,((l.getD (q + 0) 0:Nat):Int)=y:=⟨_,rfl⟩
   rw [hy0] at e0 HS
   clear hy0
   obtain ⟨y1,hy1⟩:∃ y:Int,((l.getD (q + 1) 0:Nat):Int)=y:=⟨_,rfl⟩
   rw [hy1] at e1 HS
   clear hy1 f
   have KS:Hid (∀ W,Below w.heap.size w W→W.cell? ⟨b1,off + q,none⟩=some (.int .i64 y0)∧W.cell? ⟨b1,off + (q + 1),none⟩=some (.int .i64 y1)):=fun W hb=>⟨(hb.cell (p:=⟨b1,off + q,none⟩) hbl).trans e0,(hb.cell (p:=⟨b1,off + (q + 1),none⟩) hbl).trans e1⟩
   clear e0 e1
   have HBa:=hI (qad HB.out.drew (.cells #[.int .i64 y0,.int .i64 y1] 141))
   have hown2:=qbj hown (qad (Below.refl wr.heap.size wr).drew (.cells #[.int .i64 y0,.int .i64 y1] 141))
   go_wp2_with fail
   refine qat (S:=fun W=>W.cell? ⟨b1,off + q,none⟩=some (.int .i64 y0)∧W.cell? ⟨b1,off + (q + 1),none⟩=some (.int .i64 y1)) (by kernel_rfl) ?_
   have hS:=KS.out _ HB.out.drew
   refine tkF 12 0 rfl rfl hS ?_
   simp only [Act.put,sA,s0,s1]
   refine tkF 13 1 rfl rfl hS ?_
   simp only [Act.put,sA,s0,s1]
   refine tkF 14 2 rfl rfl hS ?_
   simp only [Act.put,sA,s0,s1]
   refine tkF 15 3 rfl rfl hS ?_
   simp only [Act.put,sA,s0,s1]
   refine tkF 16 4 rfl rfl hS ?_
   simp only [Act.put,sA,s0,s1]
   refine tkF 17 5 rfl rfl hS ?_
   simp only [Act.put,sA,s0,s1]
   refine tkF 18 6 rfl rfl hS ?_
   simp only [Act.put,sA,s0,s1]
   refine tkF 19 7 rfl rfl hS ?_
   simp only [Act.put,sA,s0,s1]
   refine tkF 20 8 rfl rfl hS ?_
   simp only [Act.put,sA,s0,s1]
   refine tkF 21 9 rfl rfl hS ?_
   simp only [Act.put,sA,s0,s1]
   refine tkF 22 10 rfl rfl hS ?_
   simp only [Act.put,sA,s0,s1]
   refine rdy1 11 rfl (fun K hK=>?_)
   go_simp
   refine hK.out _ _ (KS.out _ HBa.out) (fun _=>?_)
   clear hK K
   refine rdy1 12 rfl (fun K hK=>?_)
   refine qdb (by rfl) _ _ _ (by rfl) w 141 i0 (.agg #[.int .i64 0,.int .i64 0]) 2 16 Tryz.underlying79 hi0 hz0 hz1 hz2 rfl (by decide) _ k (flatK encR 2 (qai (grp 2 k l))).toList (by rfl) hown2 ⟨wr.heap.size,0,none⟩ 1 1 [.int .i64 y0,.int .i64 y1] (by rfl) (by rfl) (qeg (qah wr.drew _)) (by simp [Value.oneCell']) (by unfold maxLen;omega) (by omega) HBa.out ?_
   intro v' w5 hown5 _ hBw
   have HBW:=hI hBw
   refine hK.out _ _ (KS.out _ hBw) (fun _=>?_)
   clear hK K hBw
   have hS:=KS.out _ HBW.out
   refine tkF 3 13 rfl rfl hS ?_
   simp only [Act.put,List.setIfInBounds_toArray]
   refine qas (by kernel_rfl) ?_ _
   go_wp2
   go_roundw
   case rel =>
    refine ⟨k + 1,q + 2,by go_num,hI (by have:=HQ.out;omega),by omega,?_,HBW⟩
    rw [HS.out,Array.size_push,hsz,qcr (enc:=encR) (k:=2) (fun _=>rfl)]
    exact hown5
   case measure=>simp [intOf];omega
  ·have kz:decide ((q:Int) + 1 < (l.length:Int))=false:=decide_eq_false (by omega)
   have hkd:l.length / 2=k:=by have:=HQ.out;omega
   obtain ⟨A3,c3,rfl,h1,h2,h3,h4⟩:=qeo (d:=qai (grp 2 k l)) (by rw [hsz];exact hown)
   have HK:=hI hkd
   have HRE:=hI (And.intro h1 (And.intro h2 (And.intro h3 h4)))
   clear hkd h1 h2 h3 h4 hown hsz hlt
   go_wp2
   go_ret
   rw [HK.out]
   exact ⟨A3,c3,rfl,HRE.out.1,HRE.out.2.1,HRE.out.2.2.1,HRE.out.2.2.2,HB.out⟩
end Go.Proofs.YtnmojicfmcbgmaaGreatDoor
