/- Texts that the law leans on. -/
import Derived.Test.YtnmojicfmcbgmaaGreatDoorQIoP
import Derived.Test.YtnmojicfmcbgmaaGreatDoorQImD
namespace Go.Proofs.YtnmojicfmcbgmaaGreatDoor
open Go.RowKit Go.Sort Go.Lib Nb
set_option maxRecDepth 100000
def DTkP (s:ByteArray) (w:World) (e:Ending) (w':World):Prop :=
 ∃ (R:RP) (c:Nat),e=.returned (.tuple #[.agg (encP R).toArray,.int .i64 (c:Int)])∧TkO s.data.toList R c∧RdP w' R∧Below w.heap.size w w'
structure TkF (s:ByteArray) (w:World) (p2 p4 p5:Nat) (st:IS) (pc:ByteArray) (A:Option Addr) (n c:Nat) (cs:Array Value) (W:World):Prop where
 o:W.heap[p2]?=some (.cells (encP (default:RP)).toArray 35 (0,0))
 x:W.heap[p4]?=some (.cells (dI s st pc (.slice A n c)) 98 (0,0))
 r:W.heap[p5]?=some (.cells cs 35 (0,0))
 b:Below w.heap.size w W
 q:w.heap.size≤p2∧p2 < p4∧p4 < p5
section
variable {s:ByteArray} {w W W':World} {p2 p4 p5:Nat} {st:IS} {pc:ByteArray} {A:Option Addr} {n c:Nat} {cs:Array Value}
theorem TkF.lt (h:TkF s w p2 p4 p5 st pc A n c cs W):p5 < W.heap.size:=qaa h.r
theorem TkF.below (h:TkF s w p2 p4 p5 st pc A n c cs W) (hb:Below W.heap.size W W'):TkF s w p2 p4 p5 st pc A n c cs W' :=
 ⟨(hb.block _ (qaa h.o)).trans h.o,(hb.block _ (qaa h.x)).trans h.x,(hb.block _ (qaa h.r)).trans h.r,qac h.b hb,h.q⟩
theorem TkF.set (h:TkF s w p2 p4 p5 st pc A n c cs W) (st':IS) (pc':ByteArray) (A':Option Addr) (n' c':Nat):TkF s w p2 p4 p5 st' pc' A' n' c' cs (W.setRow p4 (dI s st' pc' (.slice A' n' c'))):=by
 have q:=h.q
 exact ⟨(setRow_other _ _ _ _ (by omega)).trans h.o,setRow_heap _ _ _ _ _ _ h.x,(setRow_other _ _ _ _ (by omega)).trans h.r,qbx h.b (by omega) _,q⟩
theorem TkF.setr (h:TkF s w p2 p4 p5 st pc A n c cs W) (ds:Array Value):TkF s w p2 p4 p5 st pc A n c ds (W.setRow p5 ds):=by
 have q:=h.q
 exact ⟨(setRow_other _ _ _ _ (by omega)).trans h.o,(setRow_other _ _ _ _ (by omega)).trans h.x,setRow_heap _ _ _ _ _ _ h.r,qbx h.b (by omega) _,q⟩
theorem TkF.setc (h:TkF s w p2 p4 p5 st pc A n c cs W) (i:Nat) (v:Value):TkF s w p2 p4 p5 st pc A n c (cs.setIfInBounds i v) (W.setCell ⟨p5,i,none⟩ v):=by
 have q:=h.q
 exact ⟨(Below.heap_setCell _ _ _ _ (by show _≠p5;omega)).trans h.o,(Below.heap_setCell _ _ _ _ (by show _≠p5;omega)).trans h.x,qaj h.r i v,h.b.setCell (p:=⟨p5,i,none⟩) (by show _≤p5;omega) v,q⟩
theorem TkF.cells (h:TkF s w p2 p4 p5 st pc A n c cs W):qgm W p4 6=true∧rowAt W p4=dI s st pc (.slice A n c)∧W.cell? ⟨p4,3,none⟩=some (.int .i64 (st.r.e:Int))∧W.cell? ⟨p4,4,none⟩=some (.slice A n c) :=
 ⟨qav h.x rfl,qbh h.x,(qab h.x 3).trans rfl,(qab h.x 4).trans rfl⟩
theorem TkF.kf {m:Nat} (h:TkF s w p2 p4 p5 st pc A n c cs W) (hm:p5 < m) (cs':Array Value):KF m W (W.setRow p4 cs'):=KF.of_setRow (by have:=h.q;omega) _ _
end
theorem hz_D:(encP (default:RP)).toArray=#[.int .i64 0,.int .i64 0,.int .i64 0,.int .i64 0,.int .i64 0,.int .i64 0,.int .i64 0,.slice none 0 0,.slice none 0 0,.slice none 0 0,.slice none 0 0,.slice none 0 0,.slice none 0 0,.int .i64 0,.int .i64 0,.int .i64 0,.slice none 0 0,.slice none 0 0]:=rfl
attribute [local go_sem ↓] qfe qej qbc qba
attribute [local go_sem] qfq qaq qby qbk qcn qbt qbq qbz hR_size qfh qhm
theorem qfl {W:World} {g p i:Nat} (h:p≠g) (cs:Array Value):(W.setRow g cs).cell? ⟨p,i,none⟩=W.cell? ⟨p,i,none⟩:=World.cell?_of_block (a:=⟨p,i,none⟩) (setRow_other W g p cs h)
theorem qfm {W:World} {g p i:Nat} (h:p≠g) (cs:Array Value):(W.setRow g cs).frozen? ⟨p,i,none⟩=W.frozen? ⟨p,i,none⟩:=World.frozen?_of_block (a:=⟨p,i,none⟩) (setRow_other W g p cs h)
theorem one_lits {a:Array Value} (h:qbw a=true):∀ i:Nat,(a[i]!).oneCell'=true:=fun i=>by
 by_cases hi:i < a.size
 ·rw [getElem!_pos a i hi]
  exact (Array.all_eq_true_iff_forall_mem.1 h) _ (Array.getElem_mem hi)
 ·rw [getElem!_neg a i hi]
  rfl
set_option maxHeartbeats 40000000 in
theorem dTk_any (s:ByteArray) (w:World) (hs:s.size≤1000000) :
 Calls Tryz.prog 11 #[.string s] w fun e w'=>DTkP s w e w':=by
 have hsl:s.data.toList.length=s.size:=by simp
 have HR0:Hid ((w.alloc (.cells #[.int .i64 0,.int .i64 0,.int .i64 0,.int .i64 0,.int .i64 0,.int .i64 0,.int .i64 0,.slice none 0 0,.slice none 0 0,.slice none 0 0,.slice none 0 0,.slice none 0 0,.slice none 0 0,.int .i64 0,.int .i64 0,.int .i64 0,.slice none 0 0,.slice none 0 0] 35)).heap[w.heap.size]?=some (.cells (encP (default:RP)).toArray 35 (0,0))):=qah w _
 have HB0:=hI (bel1 w (.cells #[.int .i64 0,.int .i64 0,.int .i64 0,.int .i64 0,.int .i64 0,.int .i64 0,.int .i64 0,.slice none 0 0,.slice none 0 0,.slice none 0 0,.slice none 0 0,.slice none 0 0,.slice none 0 0,.int .i64 0,.int .i64 0,.int .i64 0,.slice none 0 0,.slice none 0 0] 35))
 by_cases hbig:18000 < s.size
 ·have kb:(18000:Int) < (s.size:Int):=by omega
  have HTK:Hid (tkE s.data.toList=3):=by show _=_;unfold tkE;rw [hsl,if_pos hbig]
  clear hbig hsl hs
  go_enter Tryz.func11,Tryz.ntmps11
  go_upto_region 2 with (fail)
  obtain ⟨w0,hw0⟩:∃ W,W=w.alloc (.cells #[.int .i64 0,.int .i64 0,.int .i64 0,.int .i64 0,.int .i64 0,.int .i64 0,.int .i64 0,.slice none 0 0,.slice none 0 0,.slice none 0 0,.slice none 0 0,.slice none 0 0,.slice none 0 0,.int .i64 0,.int .i64 0,.int .i64 0,.slice none 0 0,.slice none 0 0] 35):=⟨_,rfl⟩
  rw [←hw0] at HR0 HB0 ⊢
  clear hw0
  have x1:=qav HR0.out (qde _)
  go_wp2
  refine bodyPost_ret (qbm rfl rfl (setRow_heap _ _ _ _ _ _ HR0.out) rfl) rfl ?_
  exact ⟨default,3,rfl,Or.inl ⟨by rw [HTK.out];decide,HTK.out.symm,rfl⟩,qcq _,qbx HB0.out (Nat.le_refl _) _⟩
 ·have kb:decide ((18000:Int) < (s.size:Int))=false:=decide_eq_false (by omega)
  have HSM:Hid (¬ 18000 < s.data.toList.length):=by show ¬ _;rw [hsl];exact hbig
  rcases e0:(numC 9 (by decide)).rd s.data.toList ⟨⟨0,0⟩,false⟩ with ⟨st1,x0⟩
  rcases e1:qan (nC.rd s.data.toList) 9 st1 with ⟨st10,ln⟩
  obtain ⟨x1,x2,x3,x4,x5,x6,x7,x8,x9,rfl⟩:=len9 (l:=ln) (by have:=qet (nC.rd s.data.toList) 9 st1;rw [e1] at this;exact this)
  rcases e10:(enC.list 1000 (by decide)).rd s.data.toList st10 with ⟨st11,ge⟩
  rcases e11:(rowC 2 (by decide)).rd s.data.toList st11 with ⟨st12,go⟩
  rcases e12:(knC.vec x0).rd s.data.toList st12 with ⟨st13,gk⟩
  rcases e13:((rowC 1 (by decide)).vec x0).rd s.data.toList st13 with ⟨st14,gm⟩
  rcases e14:(rowC 1 (by decide)).rd s.data.toList st14 with ⟨st15,gf⟩
  rcases e15:((rowC 2 (by decide)).vec x0).rd s.data.toList st15 with ⟨st16,gd⟩
  rcases e16:(((nC.vec 4).list 1000 (by decide)).pair (seC.list 1000 (by decide))).rd s.data.toList st16 with ⟨st17,gi,gs⟩
  have EE:Hid (rd0 s.data.toList=(st17,((x0,[x1,x2,x3,x4,x5,x6,x7,x8,x9]),(ge,(go,(gk,(gm,(gf,(gd,(gi,gs))))))))) ) :=
   dep_rd (qcb e0 e1) (qcb e10 (qcb e11 (qcb e12 (qcb e13 (qcb e14 (qcb e15 e16))))))
  have P1:Hid (st1.r.pos≤s.data.toList.length):=by have:=(numC 9 (by decide)).far s.data.toList ⟨⟨0,0⟩,false⟩ (Nat.zero_le _);rw [e0] at this;exact this
  have P10:Hid (st10.r.pos≤s.data.toList.length):=by have:=qdy (C:=nC) (k:=9) P1.out;rw [e1] at this;exact this
  have P11:Hid (st11.r.pos≤s.data.toList.length):=by have:=(enC.list 1000 (by decide)).far s.data.toList st10 P10.out;rw [e10] at this;exact this
  have P12:Hid (st12.r.pos≤s.data.toList.length):=by have:=(rowC 2 (by decide)).far s.data.toList st11 P11.out;rw [e11] at this;exact this
  have P13:Hid (st13.r.pos≤s.data.toList.length):=by have:=(knC.vec x0).far s.data.toList st12 P12.out;rw [e12] at this;exact this
  have P14:Hid (st14.r.pos≤s.data.toList.length):=by have:=((rowC 1 (by decide)).vec x0).far s.data.toList st13 P13.out;rw [e13] at this;exact this
  have P15:Hid (st15.r.pos≤s.data.toList.length):=by have:=(rowC 1 (by decide)).far s.data.toList st14 P14.out;rw [e14] at this;exact this
  have P16:Hid (st16.r.pos≤s.data.toList.length):=by have:=((rowC 2 (by decide)).vec x0).far s.data.toList st15 P15.out;rw [e15] at this;exact this
  have B16:Hid (st17.r.e=0→st16.r.e=0):=qbn e16
  have B15:Hid (st17.r.e=0→st15.r.e=0):=fun h0=>qbn e15 (B16.out h0)
  have B14:Hid (st17.r.e=0→st14.r.e=0):=fun h0=>qbn e14 (B15.out h0)
  have B13:Hid (st17.r.e=0→st13.r.e=0):=fun h0=>qbn e13 (B14.out h0)
  have B12:Hid (st17.r.e=0→st12.r.e=0):=fun h0=>qbn e12 (B13.out h0)
  have B11:Hid (st17.r.e=0→st11.r.e=0):=fun h0=>qbn e11 (B12.out h0)
  have HM:=hI (qgx e0)
  have MO:=hI (qfs (qdf e11))
  obtain ⟨lo,hlo⟩:∃ y,(rowR s.data.toList 1000 st11.r).2=y:=⟨_,rfl⟩
  have hll:lo.length≤1000:=by have:=qhe s.data.toList 1000 st11.r (by decide);rw [hlo] at this;exact this
  have HGO:Hid (grp 2 (lo.length / 2) lo=go):=by
   have:((rowC 2 (by decide)).rd s.data.toList st11).2=go:=by rw [e11]
   show _=_
   rw [←this,←hlo]
   rfl
  have HN0:Hid (∀ W,Calls Tryz.prog 42 #[.agg #[.string s,.int .i64 0,.string ⟨#[]⟩,.int .i64 0,.slice none 0 0,.bool false],.int .i64 1,.int .i64 9] W fun e w'=>qiz s 1 (st1,[x0]) W e w'):=fun W=>by
   have:=qep s ⟨#[]⟩ ⟨⟨0,0⟩,false⟩ none 0 0 1 9 (by decide) W (Nat.zero_le _) (by omega) (by decide)
   rw [qvk e0] at this
   exact this
  have HN1:Hid (∀ (pc:ByteArray) A n c W,Calls Tryz.prog 42 #[.agg (dI s st1 pc (.slice A n c)),.int .i64 9,.int .i64 1000000] W fun e w'=>qiz s 9 (st10,[x1,x2,x3,x4,x5,x6,x7,x8,x9]) W e w'):=fun pc A n c W=>by
   have:=qep s pc st1 A n c 9 1000000 (by decide) W (by rw [←hsl];exact P1.out) (by omega) (by decide)
   have h2:qan ((numC 1000000 (by decide)).rd s.data.toList) 9 st1=(st10,[x1,x2,x3,x4,x5,x6,x7,x8,x9]):=e1
   rw [h2] at this
   exact this
  have HCM:Hid (∀ (pc:ByteArray) A n c W,Calls Tryz.prog 43 #[.agg (dI s st10 pc (.slice A n c))] W fun e w'=>DLsP kdE entM nnE s (st11,ge) W e w'):=fun pc A n c W=>by
   have:=dcmds_any s pc st10 A n c W (by rw [←hsl];exact P10.out) (by omega)
   rw [e10] at this
   exact this
  have HRO:Hid (∀ (pc:ByteArray) A n c W,Calls Tryz.prog 44 #[.agg (dI s st11 pc (.slice A n c)),.int .i64 2] W fun e w'=>∃ pc' A' c',e=.returned (.agg (dI s st12 pc' (.slice A' lo.length c')))∧RdI w'.heap.size w' A' (ints lo)∧((A'=none→c'=0)∧lo.length≤c')∧Fr W.heap.size A'∧Below W.heap.size W w'):=fun pc A n c W=>by
   have:=qqp s pc st11 A n c W (by rw [←hsl];exact P11.out) (by omega)
   unfold qhq at this
   rw [e11,hlo] at this
   exact this
  have HHE:Hid (∀ (pc:ByteArray) A n c (a:Array Value) (_:∀ i:Nat,(a[i]!).oneCell'=true) W,Calls Tryz.prog 46 #[.agg (dI s st12 pc (.slice A n c)),.agg (hR x0 a (.slice none 0 0) (.slice none 0 0) (.slice none 0 0) (.slice none 0 0))] W fun e w'=>DHeP s x0 a st16 gk gm gf gd W e w'):=fun pc A n c a ha W =>
   qyd s pc st12 st13 st14 st15 st16 A n c x0 a gk gm gf gd W (by rw [←hsl];exact P12.out) (by omega) (Nat.le_trans HM.out (by decide)) ha e12 e13 e14 e15
  have HST:Hid (∀ (pc:ByteArray) A n c W,Calls Tryz.prog 47 #[.agg (dI s st16 pc (.slice A n c))] W fun e w'=>DStoP s (st17,(gi,gs)) W e w'):=fun pc A n c W=>by
   have:=qyb s pc st16 A n c W (by rw [←hsl];exact P16.out) (by omega)
   rw [e16] at this
   exact this
  have HTA:=hI (fun A c W h=>qvi A c lo W h (by omega))
  clear e0 e1 e10 e11 e12 e13 e14 e15 e16 hlo
  clear hbig hsl hs
  go_enter Tryz.func11,Tryz.ntmps11
  go_upto_region 3 with (fail)
  obtain ⟨w0,hw0⟩:∃ W,W=w.alloc (.cells #[.int .i64 0,.int .i64 0,.int .i64 0,.int .i64 0,.int .i64 0,.int .i64 0,.int .i64 0,.slice none 0 0,.slice none 0 0,.slice none 0 0,.slice none 0 0,.slice none 0 0,.slice none 0 0,.int .i64 0,.int .i64 0,.int .i64 0,.slice none 0 0,.slice none 0 0] 35):=⟨_,rfl⟩
  rw [←hw0] at HR0 HB0 ⊢
  have HL0:Hid (w.heap.size < w0.heap.size):=qaa HR0.out
  clear hw0
  go_wp2_with fail
  refine (HN0.out _).mono ?_
  rintro _ w1 ⟨pc1,A1,c1,rfl,hrd1,hnc1,hfr1,hb1⟩
  dsimp only at hrd1 ⊢
  have hst:=qby w1 w1.heap.size #[.string ⟨#[]⟩,.int .i64 0,.string ⟨#[]⟩,.int .i64 0,.slice none 0 0,.bool false] (dI s st1 pc1 (.slice A1 1 c1)) rfl rfl (qbk _ _ _ _) (qcn _ _ _ _ _ _)
  go_upto_region 4 with (fail)
  clear hst
  have hb2:=bel1 w1 (.cells (dI s st1 pc1 (.slice A1 1 c1)) 98)
  have R2:=hI (hrd1.below' hb2)
  have HL1:Hid (w0.heap.size≤w1.heap.size):=hb1.size
  have X2:Hid ((w1.alloc (.cells (dI s st1 pc1 (.slice A1 1 c1)) 98)).heap[w1.heap.size]?=some (.cells (dI s st1 pc1 (.slice A1 1 c1)) 98 (0,0))):=qah w1 _
  have O2:=hI (((qac hb1 hb2).block _ (qaa HR0.out)).trans HR0.out)
  have B2:=hI (qac (qac HB0.out hb1) hb2)
  obtain ⟨w2,hw2⟩:∃ W,W=w1.alloc (.cells (dI s st1 pc1 (.slice A1 1 c1)) 98):=⟨_,rfl⟩
  obtain ⟨p4,hp4⟩:∃ p,p=w1.heap.size:=⟨_,rfl⟩
  rw [←hp4] at X2 HL1
  rw [←hw2] at X2 O2 B2 R2
  rw [←hp4,←hw2]
  clear hw2 hp4 hrd1 hnc1 hfr1 hb1 hb2 HR0 HB0
  obtain ⟨b1,off,rfl,hbl,f⟩:=R2.out (by rw [qao];simp)
  have a0:=qbb (j:=0) f (by simp)
  simp only [List.getD_cons_zero,Nat.add_zero] at a0
  clear f hbl R2
  have z4:w2.cell? ⟨p4,4,none⟩=some (.slice (some ⟨b1,off,none⟩) 1 c1):=(qab X2.out 4).trans rfl
  have hst:=qbz w2 w2.heap.size #[.int .i64 0,.int .i64 0,.int .i64 0,.int .i64 0,.int .i64 0,.int .i64 0,.int .i64 0,.slice none 0 0,.slice none 0 0,.slice none 0 0,.slice none 0 0,.slice none 0 0,.slice none 0 0,.int .i64 0,.int .i64 0,.int .i64 0,.slice none 0 0,.slice none 0 0] #[.int .i64 (x0:Int),.int .i64 0,.int .i64 0,.int .i64 0,.int .i64 0,.int .i64 0,.int .i64 0,.slice none 0 0,.slice none 0 0,.slice none 0 0,.slice none 0 0,.slice none 0 0,.slice none 0 0,.int .i64 0,.int .i64 0,.int .i64 0,.slice none 0 0,.slice none 0 0] rfl rfl rfl (by simp [qbw,Value.oneCell'])
  go_upto_region 5 with (fail)
  clear hst a0 z4
  have hb3:=bel1 w2 (.cells #[.int .i64 (x0:Int),.int .i64 0,.int .i64 0,.int .i64 0,.int .i64 0,.int .i64 0,.int .i64 0,.slice none 0 0,.slice none 0 0,.slice none 0 0,.slice none 0 0,.slice none 0 0,.slice none 0 0,.int .i64 0,.int .i64 0,.int .i64 0,.slice none 0 0,.slice none 0 0] 35)
  have F3:Hid (TkF s w w.heap.size p4 w2.heap.size st1 pc1 (some ⟨b1,off,none⟩) 1 c1 #[.int .i64 (x0:Int),.int .i64 0,.int .i64 0,.int .i64 0,.int .i64 0,.int .i64 0,.int .i64 0,.slice none 0 0,.slice none 0 0,.slice none 0 0,.slice none 0 0,.slice none 0 0,.slice none 0 0,.int .i64 0,.int .i64 0,.int .i64 0,.slice none 0 0,.slice none 0 0] (w2.alloc (.cells #[.int .i64 (x0:Int),.int .i64 0,.int .i64 0,.int .i64 0,.int .i64 0,.int .i64 0,.int .i64 0,.slice none 0 0,.slice none 0 0,.slice none 0 0,.slice none 0 0,.slice none 0 0,.slice none 0 0,.int .i64 0,.int .i64 0,.int .i64 0,.slice none 0 0,.slice none 0 0] 35))) :=
   ⟨(hb3.block _ (qaa O2.out)).trans O2.out,(hb3.block _ (qaa X2.out)).trans X2.out,qah w2 _,qac B2.out hb3,by have:=qaa X2.out;have:=HL0.out;have:=HL1.out;omega⟩
  obtain ⟨w3,hw3⟩:∃ W,W=w2.alloc (.cells #[.int .i64 (x0:Int),.int .i64 0,.int .i64 0,.int .i64 0,.int .i64 0,.int .i64 0,.int .i64 0,.slice none 0 0,.slice none 0 0,.slice none 0 0,.slice none 0 0,.slice none 0 0,.slice none 0 0,.int .i64 0,.int .i64 0,.int .i64 0,.slice none 0 0,.slice none 0 0] 35):=⟨_,rfl⟩
  obtain ⟨p5,hp5⟩:∃ p,p=w2.heap.size:=⟨_,rfl⟩
  obtain ⟨p2,hp2⟩:∃ p,p=w.heap.size:=⟨_,rfl⟩
  rw [←hw3,←hp5] at F3
  rw [←hp5,←hw3,←hp2]
  have F3:Hid (TkF s w p2 p4 p5 st1 pc1 (some ⟨b1,off,none⟩) 1 c1 #[.int .i64 (x0:Int),.int .i64 0,.int .i64 0,.int .i64 0,.int .i64 0,.int .i64 0,.int .i64 0,.slice none 0 0,.slice none 0 0,.slice none 0 0,.slice none 0 0,.slice none 0 0,.slice none 0 0,.int .i64 0,.int .i64 0,.int .i64 0,.slice none 0 0,.slice none 0 0] w3):=by rw [hp2];exact F3
  clear hw3 hp5 hp2 hb3 X2 O2 B2 HL1 HL0
  obtain ⟨x1',x2',z3,z4⟩:=F3.out.cells
  go_wp2_with fail
  refine (HN1.out _ _ _ _ _).mono ?_
  rintro _ w4 ⟨pc2,A2,c2,rfl,hrd2,hnc2,hfr2,hb4⟩
  dsimp only at hrd2 ⊢
  clear x1' x2' z3 z4
  have FA:=hI (F3.out.below hb4)
  obtain ⟨x1',x2',z3,z4⟩:=FA.out.cells
  have hst:=qaq w4 p4 (dI s st10 pc2 (.slice A2 9 c2)) x1' (qbk _ _ _ _) (qcn _ _ _ _ _ _)
  go_upto_region 6 with (fail)
  clear hst x1' x2' z3 z4
  have F5:=hI (FA.out.set st10 pc2 A2 9 c2)
  have R5:=hI (RdI.set (p1:=p4) (cs:=dI s st10 pc2 (.slice A2 9 c2)) hrd2 hfr2 (by have:=F3.out.q;have:=F3.out.lt;omega))
  have HFR:Hid (Fr (p5 + 1) A2):=hfr2.mono F3.out.lt
  obtain ⟨w5,hw5⟩:∃ W,W=w4.setRow p4 (dI s st10 pc2 (.slice A2 9 c2)):=⟨_,rfl⟩
  rw [←hw5] at F5 R5 ⊢
  clear hw5 hrd2 hnc2 hfr2 hb4 FA F3
  obtain ⟨b1,off,rfl,hbl,f⟩:=R5.out (by rw [qao];simp)
  have hb5:p5 < b1:=HFR.out _ rfl
  have KS:Hid (∀ W:World,(∀ i,i < w5.heap.size→i≠p5→W.heap[i]?=w5.heap[i]?)→W.cell? ⟨p4,4,none⟩=some (.slice (some ⟨b1,off,none⟩) 9 c2)∧W.cell? ⟨b1,off,none⟩=some (.int .i64 (x1:Int))∧W.cell? ⟨b1,off + 1,none⟩=some (.int .i64 (x2:Int))∧W.cell? ⟨b1,off + 2,none⟩=some (.int .i64 (x3:Int))∧W.cell? ⟨b1,off + 3,none⟩=some (.int .i64 (x4:Int))∧W.cell? ⟨b1,off + 4,none⟩=some (.int .i64 (x5:Int))∧W.cell? ⟨b1,off + 5,none⟩=some (.int .i64 (x6:Int))∧W.cell? ⟨b1,off + 6,none⟩=some (.int .i64 (x7:Int))∧W.cell? ⟨b1,off + 7,none⟩=some (.int .i64 (x8:Int))∧W.cell? ⟨b1,off + 8,none⟩=some (.int .i64 (x9:Int))):=fun W hst=>⟨qau (F5.out.cells).2.2.2 (hst p4 (qaa F5.out.x) (by have:=F5.out.q;omega)),qau (qbb (j:=0) f (by simp)) (hst b1 hbl (by omega)),qau (qbb (j:=1) f (by simp)) (hst b1 hbl (by omega)),qau (qbb (j:=2) f (by simp)) (hst b1 hbl (by omega)),qau (qbb (j:=3) f (by simp)) (hst b1 hbl (by omega)),qau (qbb (j:=4) f (by simp)) (hst b1 hbl (by omega)),qau (qbb (j:=5) f (by simp)) (hst b1 hbl (by omega)),qau (qbb (j:=6) f (by simp)) (hst b1 hbl (by omega)),qau (qbb (j:=7) f (by simp)) (hst b1 hbl (by omega)),qau (qbb (j:=8) f (by simp)) (hst b1 hbl (by omega))⟩
  clear f hbl hb5 R5 HFR
  go_cut [] from 22 to 66 (fun wx=>∃ cs,Hid (cs=#[.int .i64 (x0:Int),.int .i64 (x1:Int),.int .i64 (x2:Int),.int .i64 (x3:Int),.int .i64 (x4:Int),.int .i64 (x5:Int),.int .i64 (x6:Int),.slice none 0 0,.slice none 0 0,.slice none 0 0,.slice none 0 0,.slice none 0 0,.slice none 0 0,.int .i64 (x7:Int),.int .i64 (x8:Int),.int .i64 (x9:Int),.slice none 0 0,.slice none 0 0]∧TkF s w p2 p4 p5 st10 pc2 (some ⟨b1,off,none⟩) 9 c2 cs wx))
  case first =>
   go_wp2_with fail
   refine qat (S:=fun W=>W.cell? ⟨p4,4,none⟩=some (.slice (some ⟨b1,off,none⟩) 9 c2)∧W.cell? ⟨b1,off,none⟩=some (.int .i64 (x1:Int))∧W.cell? ⟨b1,off + 1,none⟩=some (.int .i64 (x2:Int))∧W.cell? ⟨b1,off + 2,none⟩=some (.int .i64 (x3:Int))∧W.cell? ⟨b1,off + 3,none⟩=some (.int .i64 (x4:Int))∧W.cell? ⟨b1,off + 4,none⟩=some (.int .i64 (x5:Int))∧W.cell? ⟨b1,off + 5,none⟩=some (.int .i64 (x6:Int))∧W.cell? ⟨b1,off + 6,none⟩=some (.int .i64 (x7:Int))∧W.cell? ⟨b1,off + 7,none⟩=some (.int .i64 (x8:Int))∧W.cell? ⟨b1,off + 8,none⟩=some (.int .i64 (x9:Int))) (by kernel_rfl) ?_
   have hS:=KS.out w5.drew (fun _ _ _=>rfl)
   refine tkF 22 0 rfl rfl hS ?_
   simp only [Act.put,sA,s0,s1]
   refine tkF 23 1 rfl rfl hS ?_
   simp only [Act.put,sA,s0,s1]
   refine tkF 24 2 rfl rfl hS ?_
   simp only [Act.put,sA,s0,s1]
   refine tkF 25 3 rfl rfl hS ?_
   simp only [Act.put,sA,s0,s1]
   refine tkF 26 4 rfl rfl hS ?_
   simp only [Act.put,sA,s0,s1]
   refine tkF 27 5 rfl rfl hS ?_
   simp only [Act.put,sA,s0,s1]
   refine tkF 28 6 rfl rfl hS ?_
   simp only [Act.put,sA,s0,s1]
   refine tkF 29 7 rfl rfl hS ?_
   simp only [Act.put,sA,s0,s1]
   refine tkF 30 8 rfl rfl hS ?_
   simp only [Act.put,sA,s0,s1]
   refine tkF 31 9 rfl rfl hS ?_
   simp only [Act.put,sA,s0,s1]
   refine tkF 32 10 rfl rfl hS ?_
   simp only [Act.put,sA,s0,s1]
   refine tkF 33 11 rfl rfl hS ?_
   simp only [Act.put,sA,s0,s1]
   refine tkF 34 12 rfl rfl hS ?_
   simp only [Act.put,sA,s0,s1]
   refine tkF 35 13 rfl rfl hS ?_
   simp only [Act.put,sA,s0,s1]
   refine tkF 36 14 rfl rfl hS ?_
   simp only [Act.put,sA,s0,s1]
   refine tkF 37 15 rfl rfl hS ?_
   simp only [Act.put,sA,s0,s1]
   refine tkF 38 16 rfl rfl hS ?_
   simp only [Act.put,sA,s0,s1]
   refine tkF 39 17 rfl rfl hS ?_
   simp only [Act.put,sA,s0,s1]
   refine tkF 40 18 rfl rfl hS ?_
   simp only [Act.put,sA,s0,s1]
   refine tkF 41 19 rfl rfl hS ?_
   simp only [Act.put,sA,s0,s1]
   refine tkF 42 20 rfl rfl hS ?_
   simp only [Act.put,sA,s0,s1]
   refine tkF 43 21 rfl rfl hS ?_
   simp only [Act.put,sA,s0,s1]
   refine tkF 44 22 rfl rfl hS ?_
   simp only [Act.put,sA,s0,s1]
   refine tkF 45 23 rfl rfl hS ?_
   simp only [Act.put,sA,s0,s1]
   refine tkF 46 24 rfl rfl hS ?_
   simp only [Act.put,sA,s0,s1]
   refine tkF 47 25 rfl rfl hS ?_
   simp only [Act.put,sA,s0,s1]
   refine tkF 48 26 rfl rfl hS ?_
   simp only [Act.put,sA,s0,s1]
   refine tkF 49 27 rfl rfl hS ?_
   simp only [Act.put,sA,s0,s1]
   refine tkF 50 28 rfl rfl hS ?_
   simp only [Act.put,sA,s0,s1]
   refine tkF 51 29 rfl rfl hS ?_
   simp only [Act.put,sA,s0,s1]
   refine tkF 52 30 rfl rfl hS ?_
   simp only [Act.put,sA,s0,s1]
   refine tkF 53 31 rfl rfl hS ?_
   simp only [Act.put,sA,s0,s1]
   refine tkF 54 32 rfl rfl hS ?_
   simp only [Act.put,sA,s0,s1]
   refine tkF 55 33 rfl rfl hS ?_
   simp only [Act.put,sA,s0,s1]
   refine tkF 56 34 rfl rfl hS ?_
   simp only [Act.put,sA,s0,s1]
   refine tkF 57 35 rfl rfl hS ?_
   simp only [Act.put,sA,s0,s1]
   refine tkF 58 36 rfl rfl hS ?_
   simp only [Act.put,sA,s0,s1]
   refine tkF 59 37 rfl rfl hS ?_
   simp only [Act.put,sA,s0,s1]
   have F50:=hI (F5.out.below (Below.refl _ _).drew)
   obtain ⟨c60,hc60⟩:∃ y,y=(#[.int .i64 (x0:Int),.int .i64 0,.int .i64 0,.int .i64 0,.int .i64 0,.int .i64 0,.int .i64 0,.slice none 0 0,.slice none 0 0,.slice none 0 0,.slice none 0 0,.slice none 0 0,.slice none 0 0,.int .i64 0,.int .i64 0,.int .i64 0,.slice none 0 0,.slice none 0 0]:Array Value):=⟨_,rfl⟩
   rw [←hc60] at F50
   have HC60:=hI hc60
   clear hc60
   obtain ⟨u0,hu0⟩:∃ W,W=w5.drew:=⟨_,rfl⟩
   have HU0:Hid (∀ i,i < w5.heap.size→i≠p5→u0.heap[i]?=w5.heap[i]?):=by show ∀ i,_;rw [hu0];exact fun _ _ _=>rfl
   rw [←hu0] at F50 ⊢
   clear hu0
   have fl:=qaa F50.out.r
   have cc1:u0.cell? ⟨p5,1,none⟩=some (.int .i64 0):=(qab F50.out.r 1).trans (by rw [HC60.out];rfl)
   have ff1:=Lib.frozen_of_heap F50.out.r 1
   clear hS
   refine rdy1 38 rfl (fun K hK=>?_)
   go_simp
   have F51:=hI (F50.out.setc 1 (.int .i64 (x1:Int)))
   obtain ⟨c61,hc⟩:∃ y,(c60.setIfInBounds 1 (.int .i64 (x1:Int)))=y:=⟨_,rfl⟩
   rw [hc] at F51
   have HC61:Hid (c61=#[.int .i64 (x0:Int),.int .i64 (x1:Int),.int .i64 0,.int .i64 0,.int .i64 0,.int .i64 0,.int .i64 0,.slice none 0 0,.slice none 0 0,.slice none 0 0,.slice none 0 0,.slice none 0 0,.slice none 0 0,.int .i64 0,.int .i64 0,.int .i64 0,.slice none 0 0,.slice none 0 0]):=by show _=_;rw [←hc,HC60.out];rfl
   clear hc
   have HU1:Hid (∀ i,i < w5.heap.size→i≠p5→(u0.setCell ⟨p5,1,none⟩ (.int .i64 (x1:Int))).heap[i]?=w5.heap[i]?):=fun i h1 h2=>((Below.heap_setCell _ _ _ _ (by show i≠p5;exact h2)).trans (HU0.out i h1 h2))
   obtain ⟨u1,hu⟩:∃ W,W=(u0.setCell ⟨p5,1,none⟩ (.int .i64 (x1:Int))):=⟨_,rfl⟩
   rw [←hu] at F51 HU1 ⊢
   clear hu fl cc1 ff1
   refine hK.out _ _ (KS.out _ HU1.out) (fun _=>?_)
   have hS:=KS.out _ HU1.out
   clear hK K F50 HU0 HC60
   have fl:=qaa F51.out.r
   have cc2:u1.cell? ⟨p5,2,none⟩=some (.int .i64 0):=(qab F51.out.r 2).trans (by rw [HC61.out];rfl)
   have ff2:=Lib.frozen_of_heap F51.out.r 2
   refine tkF 60 39 rfl rfl hS ?_
   simp only [Act.put,sA,s0,s1]
   clear hS
   refine rdy1 40 rfl (fun K hK=>?_)
   go_simp
   have F52:=hI (F51.out.setc 2 (.int .i64 (x2:Int)))
   obtain ⟨c62,hc⟩:∃ y,(c61.setIfInBounds 2 (.int .i64 (x2:Int)))=y:=⟨_,rfl⟩
   rw [hc] at F52
   have HC62:Hid (c62=#[.int .i64 (x0:Int),.int .i64 (x1:Int),.int .i64 (x2:Int),.int .i64 0,.int .i64 0,.int .i64 0,.int .i64 0,.slice none 0 0,.slice none 0 0,.slice none 0 0,.slice none 0 0,.slice none 0 0,.slice none 0 0,.int .i64 0,.int .i64 0,.int .i64 0,.slice none 0 0,.slice none 0 0]):=by show _=_;rw [←hc,HC61.out];rfl
   clear hc
   have HU2:Hid (∀ i,i < w5.heap.size→i≠p5→(u1.setCell ⟨p5,2,none⟩ (.int .i64 (x2:Int))).heap[i]?=w5.heap[i]?):=fun i h1 h2=>((Below.heap_setCell _ _ _ _ (by show i≠p5;exact h2)).trans (HU1.out i h1 h2))
   obtain ⟨u2,hu⟩:∃ W,W=(u1.setCell ⟨p5,2,none⟩ (.int .i64 (x2:Int))):=⟨_,rfl⟩
   rw [←hu] at F52 HU2 ⊢
   clear hu fl cc2 ff2
   refine hK.out _ _ (KS.out _ HU2.out) (fun _=>?_)
   have hS:=KS.out _ HU2.out
   clear hK K F51 HU1 HC61
   have fl:=qaa F52.out.r
   have cc3:u2.cell? ⟨p5,3,none⟩=some (.int .i64 0):=(qab F52.out.r 3).trans (by rw [HC62.out];rfl)
   have ff3:=Lib.frozen_of_heap F52.out.r 3
   refine tkF 61 41 rfl rfl hS ?_
   simp only [Act.put,sA,s0,s1]
   clear hS
   refine rdy1 42 rfl (fun K hK=>?_)
   go_simp
   have F53:=hI (F52.out.setc 3 (.int .i64 (x3:Int)))
   obtain ⟨c63,hc⟩:∃ y,(c62.setIfInBounds 3 (.int .i64 (x3:Int)))=y:=⟨_,rfl⟩
   rw [hc] at F53
   have HC63:Hid (c63=#[.int .i64 (x0:Int),.int .i64 (x1:Int),.int .i64 (x2:Int),.int .i64 (x3:Int),.int .i64 0,.int .i64 0,.int .i64 0,.slice none 0 0,.slice none 0 0,.slice none 0 0,.slice none 0 0,.slice none 0 0,.slice none 0 0,.int .i64 0,.int .i64 0,.int .i64 0,.slice none 0 0,.slice none 0 0]):=by show _=_;rw [←hc,HC62.out];rfl
   clear hc
   have HU3:Hid (∀ i,i < w5.heap.size→i≠p5→(u2.setCell ⟨p5,3,none⟩ (.int .i64 (x3:Int))).heap[i]?=w5.heap[i]?):=fun i h1 h2=>((Below.heap_setCell _ _ _ _ (by show i≠p5;exact h2)).trans (HU2.out i h1 h2))
   obtain ⟨u3,hu⟩:∃ W,W=(u2.setCell ⟨p5,3,none⟩ (.int .i64 (x3:Int))):=⟨_,rfl⟩
   rw [←hu] at F53 HU3 ⊢
   clear hu fl cc3 ff3
   refine hK.out _ _ (KS.out _ HU3.out) (fun _=>?_)
   have hS:=KS.out _ HU3.out
   clear hK K F52 HU2 HC62
   have fl:=qaa F53.out.r
   have cc4:u3.cell? ⟨p5,4,none⟩=some (.int .i64 0):=(qab F53.out.r 4).trans (by rw [HC63.out];rfl)
   have ff4:=Lib.frozen_of_heap F53.out.r 4
   refine tkF 62 43 rfl rfl hS ?_
   simp only [Act.put,sA,s0,s1]
   clear hS
   refine rdy1 44 rfl (fun K hK=>?_)
   go_simp
   have F54:=hI (F53.out.setc 4 (.int .i64 (x4:Int)))
   obtain ⟨c64,hc⟩:∃ y,(c63.setIfInBounds 4 (.int .i64 (x4:Int)))=y:=⟨_,rfl⟩
   rw [hc] at F54
   have HC64:Hid (c64=#[.int .i64 (x0:Int),.int .i64 (x1:Int),.int .i64 (x2:Int),.int .i64 (x3:Int),.int .i64 (x4:Int),.int .i64 0,.int .i64 0,.slice none 0 0,.slice none 0 0,.slice none 0 0,.slice none 0 0,.slice none 0 0,.slice none 0 0,.int .i64 0,.int .i64 0,.int .i64 0,.slice none 0 0,.slice none 0 0]):=by show _=_;rw [←hc,HC63.out];rfl
   clear hc
   have HU4:Hid (∀ i,i < w5.heap.size→i≠p5→(u3.setCell ⟨p5,4,none⟩ (.int .i64 (x4:Int))).heap[i]?=w5.heap[i]?):=fun i h1 h2=>((Below.heap_setCell _ _ _ _ (by show i≠p5;exact h2)).trans (HU3.out i h1 h2))
   obtain ⟨u4,hu⟩:∃ W,W=(u3.setCell ⟨p5,4,none⟩ (.int .i64 (x4:Int))):=⟨_,rfl⟩
   rw [←hu] at F54 HU4 ⊢
   clear hu fl cc4 ff4
   refine hK.out _ _ (KS.out _ HU4.out) (fun _=>?_)
   have hS:=KS.out _ HU4.out
   clear hK K F53 HU3 HC63
   have fl:=qaa F54.out.r
   have cc5:u4.cell? ⟨p5,5,none⟩=some (.int .i64 0):=(qab F54.out.r 5).trans (by rw [HC64.out];rfl)
   have ff5:=Lib.frozen_of_heap F54.out.r 5
   refine tkF 63 45 rfl rfl hS ?_
   simp only [Act.put,sA,s0,s1]
   clear hS
   refine rdy1 46 rfl (fun K hK=>?_)
   go_simp
   have F55:=hI (F54.out.setc 5 (.int .i64 (x5:Int)))
   obtain ⟨c65,hc⟩:∃ y,(c64.setIfInBounds 5 (.int .i64 (x5:Int)))=y:=⟨_,rfl⟩
   rw [hc] at F55
   have HC65:Hid (c65=#[.int .i64 (x0:Int),.int .i64 (x1:Int),.int .i64 (x2:Int),.int .i64 (x3:Int),.int .i64 (x4:Int),.int .i64 (x5:Int),.int .i64 0,.slice none 0 0,.slice none 0 0,.slice none 0 0,.slice none 0 0,.slice none 0 0,.slice none 0 0,.int .i64 0,.int .i64 0,.int .i64 0,.slice none 0 0,.slice none 0 0]):=by show _=_;rw [←hc,HC64.out];rfl
   clear hc
   have HU5:Hid (∀ i,i < w5.heap.size→i≠p5→(u4.setCell ⟨p5,5,none⟩ (.int .i64 (x5:Int))).heap[i]?=w5.heap[i]?):=fun i h1 h2=>((Below.heap_setCell _ _ _ _ (by show i≠p5;exact h2)).trans (HU4.out i h1 h2))
   obtain ⟨u5,hu⟩:∃ W,W=(u4.setCell ⟨p5,5,none⟩ (.int .i64 (x5:Int))):=⟨_,rfl⟩
   rw [←hu] at F55 HU5 ⊢
   clear hu fl cc5 ff5
   refine hK.out _ _ (KS.out _ HU5.out) (fun _=>?_)
   have hS:=KS.out _ HU5.out
   clear hK K F54 HU4 HC64
   have fl:=qaa F55.out.r
   have cc6:u5.cell? ⟨p5,6,none⟩=some (.int .i64 0):=(qab F55.out.r 6).trans (by rw [HC65.out];rfl)
   have ff6:=Lib.frozen_of_heap F55.out.r 6
   refine tkF 64 47 rfl rfl hS ?_
   simp only [Act.put,sA,s0,s1]
   clear hS
   refine rdy1 48 rfl (fun K hK=>?_)
   go_simp
   have F56:=hI (F55.out.setc 6 (.int .i64 (x6:Int)))
   obtain ⟨c66,hc⟩:∃ y,(c65.setIfInBounds 6 (.int .i64 (x6:Int)))=y:=⟨_,rfl⟩
   rw [hc] at F56
   have HC66:Hid (c66=#[.int .i64 (x0:Int),.int .i64 (x1:Int),.int .i64 (x2:Int),.int .i64 (x3:Int),.int .i64 (x4:Int),.int .i64 (x5:Int),.int .i64 (x6:Int),.slice none 0 0,.slice none 0 0,.slice none 0 0,.slice none 0 0,.slice none 0 0,.slice none 0 0,.int .i64 0,.int .i64 0,.int .i64 0,.slice none 0 0,.slice none 0 0]):=by show _=_;rw [←hc,HC65.out];rfl
   clear hc
   have HU6:Hid (∀ i,i < w5.heap.size→i≠p5→(u5.setCell ⟨p5,6,none⟩ (.int .i64 (x6:Int))).heap[i]?=w5.heap[i]?):=fun i h1 h2=>((Below.heap_setCell _ _ _ _ (by show i≠p5;exact h2)).trans (HU5.out i h1 h2))
   obtain ⟨u6,hu⟩:∃ W,W=(u5.setCell ⟨p5,6,none⟩ (.int .i64 (x6:Int))):=⟨_,rfl⟩
   rw [←hu] at F56 HU6 ⊢
   clear hu fl cc6 ff6
   refine hK.out _ _ (KS.out _ HU6.out) (fun _=>?_)
   have hS:=KS.out _ HU6.out
   clear hK K F55 HU5 HC65
   have fl:=qaa F56.out.r
   have cc13:u6.cell? ⟨p5,13,none⟩=some (.int .i64 0):=(qab F56.out.r 13).trans (by rw [HC66.out];rfl)
   have ff13:=Lib.frozen_of_heap F56.out.r 13
   have cc14:u6.cell? ⟨p5,14,none⟩=some (.int .i64 0):=(qab F56.out.r 14).trans (by rw [HC66.out];rfl)
   have ff14:=Lib.frozen_of_heap F56.out.r 14
   refine tkF 65 49 rfl rfl hS ?_
   simp only [Act.put,sA,s0,s1]
   clear hS
   refine rdy1 50 rfl (fun K hK=>?_)
   go_simp
   have F57:=hI ((F56.out.setc 13 (.int .i64 (x7:Int))).setc 14 (.int .i64 (x8:Int)))
   obtain ⟨c67,hc⟩:∃ y,((c66.setIfInBounds 13 (.int .i64 (x7:Int))).setIfInBounds 14 (.int .i64 (x8:Int)))=y:=⟨_,rfl⟩
   rw [hc] at F57
   have HC67:Hid (c67=#[.int .i64 (x0:Int),.int .i64 (x1:Int),.int .i64 (x2:Int),.int .i64 (x3:Int),.int .i64 (x4:Int),.int .i64 (x5:Int),.int .i64 (x6:Int),.slice none 0 0,.slice none 0 0,.slice none 0 0,.slice none 0 0,.slice none 0 0,.slice none 0 0,.int .i64 (x7:Int),.int .i64 (x8:Int),.int .i64 0,.slice none 0 0,.slice none 0 0]):=by show _=_;rw [←hc,HC66.out];rfl
   clear hc
   have HU7:Hid (∀ i,i < w5.heap.size→i≠p5→((u6.setCell ⟨p5,13,none⟩ (.int .i64 (x7:Int))).setCell ⟨p5,14,none⟩ (.int .i64 (x8:Int))).heap[i]?=w5.heap[i]?):=fun i h1 h2=>((Below.heap_setCell _ _ _ _ (by show i≠p5;exact h2)).trans (((Below.heap_setCell _ _ _ _ (by show i≠p5;exact h2)).trans (HU6.out i h1 h2))))
   obtain ⟨u7,hu⟩:∃ W,W=((u6.setCell ⟨p5,13,none⟩ (.int .i64 (x7:Int))).setCell ⟨p5,14,none⟩ (.int .i64 (x8:Int))):=⟨_,rfl⟩
   rw [←hu] at F57 HU7 ⊢
   clear hu fl cc13 ff13 cc14 ff14
   refine hK.out _ _ (KS.out _ HU7.out) (fun _=>?_)
   have hS:=KS.out _ HU7.out
   clear hK K F56 HU6 HC66
   have fl:=qaa F57.out.r
   have cc15:u7.cell? ⟨p5,15,none⟩=some (.int .i64 0):=(qab F57.out.r 15).trans (by rw [HC67.out];rfl)
   have ff15:=Lib.frozen_of_heap F57.out.r 15
   refine tkF 66 51 rfl rfl hS ?_
   simp only [Act.put,sA,s0,s1]
   clear hS
   refine rdyL 52 rfl (fun K hK=>?_)
   go_simp
   refine hK.out _ _ ?_
   clear hK K fl cc15 ff15
   have F58:=hI (F57.out.setc 15 (.int .i64 (x9:Int)))
   obtain ⟨c68,hc⟩:∃ y,(c67.setIfInBounds 15 (.int .i64 (x9:Int)))=y:=⟨_,rfl⟩
   rw [hc] at F58
   have HC68:Hid (c68=#[.int .i64 (x0:Int),.int .i64 (x1:Int),.int .i64 (x2:Int),.int .i64 (x3:Int),.int .i64 (x4:Int),.int .i64 (x5:Int),.int .i64 (x6:Int),.slice none 0 0,.slice none 0 0,.slice none 0 0,.slice none 0 0,.slice none 0 0,.slice none 0 0,.int .i64 (x7:Int),.int .i64 (x8:Int),.int .i64 (x9:Int),.slice none 0 0,.slice none 0 0]):=by show _=_;rw [←hc,HC67.out];rfl
   clear hc
   refine qas (by kernel_rfl) ?_ _
   go_wp2
   go_meet
   exact ⟨_,hI ⟨HC68.out,F58.out⟩⟩
  case rest =>
   obtain ⟨cs,hcut2⟩:=hcut
   have HCS:=hI hcut2.out.1
   have F6:=hI hcut2.out.2
   clear hcut2 KS F5
   obtain ⟨x1',x2',z3,z4⟩:=F6.out.cells
   go_wp2_with fail
   refine (HCM.out _ _ _ _ _).mono ?_
   rintro _ w7 ⟨pc3,A3,n3,c3,xe,rfl,hxe,hme,hb7⟩
   dsimp only
   clear x1' x2' z3 z4
   have F7:=hI (F6.out.below hb7)
   have HL6:=hI F6.out.lt
   obtain ⟨x1',x2',z3,z4⟩:=F7.out.cells
   have hst:=qaq w7 p4 (dI s st11 pc3 (.slice A3 n3 c3)) x1' (qbk _ _ _ _) (qcn _ _ _ _ _ _)
   have cc:w7.cell? ⟨p5,7,none⟩=some (.slice none 0 0):=(qab F7.out.r 7).trans (by rw [HCS.out];rfl)
   have ff:=Lib.frozen_of_heap F7.out.r 7
   have fl:=qaa F7.out.r
   have HME:=hI hme
   have XE0:=hI (hxe.mono (by have:=F6.out.lt;exact this:p5 + 1≤_))
   clear hxe hme
   have g1:=(qfl (W:=w7) (g:=p4) (p:=p5) (i:=7) (by have:=F7.out.q;omega) (dI s st11 pc3 (.slice A3 n3 c3))).trans cc
   have g2:=(qfm (W:=w7) (g:=p4) (p:=p5) (i:=7) (by have:=F7.out.q;omega) (dI s st11 pc3 (.slice A3 n3 c3))).trans ff
   go_upto_region 8 with (fail)
   clear hst cc ff fl g1 g2
   clear x1' x2' z3 z4
   have F8:=hI ((F7.out.set st11 pc3 A3 n3 c3).setc 7 (.slice xe.A xe.z.size xe.c))
   have K8:KF (p5 + 1) w7 ((w7.setRow p4 (dI s st11 pc3 (.slice A3 n3 c3))).setCell ⟨p5,7,none⟩ (.slice xe.A xe.z.size xe.c)):=(KF.of_setRow (by have:=F7.out.q;omega) _ _).trans (KF.of_setCell (by show p5 < p5 + 1;omega) _ _)
   have XE1:=hI (XE0.out.kf K8)
   obtain ⟨w8,hw8⟩:∃ W,W=(w7.setRow p4 (dI s st11 pc3 (.slice A3 n3 c3))).setCell ⟨p5,7,none⟩ (.slice xe.A xe.z.size xe.c):=⟨_,rfl⟩
   rw [←hw8] at F8 XE1 ⊢
   clear hw8 K8 XE0 F7 F6 hb7
   obtain ⟨x1',x2',z3,z4⟩:=F8.out.cells
   go_wp2_with fail
   refine (HRO.out _ _ _ _ _).mono ?_
   rintro _ w9 ⟨pc4,A4,c4,rfl,hrd,hnc,hfr,hb9⟩
   clear x1' x2' z3 z4
   have F9:=hI (F8.out.below hb9)
   obtain ⟨x1',x2',z3,z4⟩:=F9.out.cells
   have hst:=qaq w9 p4 (dI s st12 pc4 (.slice A4 lo.length c4)) x1' (qbk _ _ _ _) (qcn _ _ _ _ _ _)
   go_upto_region 9 with (fail)
   clear hst
   clear x1' x2' z3 z4
   have F10:=hI (F9.out.set st12 pc4 A4 lo.length c4)
   have R10:=hI (RdI.set (p1:=p4) (cs:=dI s st12 pc4 (.slice A4 lo.length c4)) hrd hfr (by have:=F8.out.q;have:=F8.out.lt;omega))
   have XE2:=hI (XE1.out.kf (KF.ts (m:=p5 + 1) (p1:=p4) hb9 (dI s st12 pc4 (.slice A4 lo.length c4)) (by have:=F8.out.q;omega)))
   obtain ⟨w10,hw10⟩:∃ W,W=w9.setRow p4 (dI s st12 pc4 (.slice A4 lo.length c4)):=⟨_,rfl⟩
   rw [←hw10] at F10 R10 XE2 ⊢
   clear hw10 hrd hnc hfr hb9 F9 F8 XE1
   obtain ⟨x1',x2',z3,z4⟩:=F10.out.cells
   have HTX:=hI (HTA.out A4 c4 w10 R10.out)
   go_wp2_with fail
   refine HTX.out.mono ?_
   rintro _ w11 ⟨Ao,co,rfl,hrd,hcz,hno,hfr,hb11⟩
   clear x1' x2' z3 z4
   have F11:=hI (F10.out.below hb11)
   have XE3:=hI (XE2.out.kf (KF.of_below hb11))
   have XO0:Hid (RdX kdA (p5 + 1) ⟨Ao,co,qai (grp 2 (lo.length / 2) lo)⟩ w11):=⟨hrd,hcz,hno,hfr.mono (by have:=F10.out.lt;exact this),fun i hi=>⟨trivial,fun _ hb=>hb.elim⟩⟩
   rw [HGO.out] at XO0 ⊢
   have cc:w11.cell? ⟨p5,8,none⟩=some (.slice none 0 0):=(qab F11.out.r 8).trans (by rw [HCS.out];rfl)
   have ff:=Lib.frozen_of_heap F11.out.r 8
   have fl:=qaa F11.out.r
   clear hrd hcz hno hfr hb11 F10 XE2 R10 HTX
   go_upto_region 10 with (fail)
   clear cc ff fl
   have F12:=hI (F11.out.setc 8 (.slice Ao (qai go).size co))
   have K12:KF (p5 + 1) w11 (w11.setCell ⟨p5,8,none⟩ (.slice Ao (qai go).size co)):=KF.of_setCell (by show p5 < p5 + 1;omega) _ _
   have XE4:=hI (XE3.out.kf K12)
   have XO1:=hI (XO0.out.kf K12)
   obtain ⟨w12,hw12⟩:∃ W,W=w11.setCell ⟨p5,8,none⟩ (.slice Ao (qai go).size co):=⟨_,rfl⟩
   rw [←hw12] at F12 XE4 XO1 ⊢
   clear hw12 K12 F11 XE3 XO0
   obtain ⟨ah,hah⟩:∃ y:Array Value,y=#[.int .i64 (x1:Int),.int .i64 (x2:Int),.int .i64 (x3:Int),.int .i64 (x4:Int),.int .i64 (x5:Int),.int .i64 (x6:Int),.slice xe.A xe.z.size xe.c,.slice Ao (qai go).size co,.int .i64 (x7:Int),.int .i64 (x8:Int),.int .i64 (x9:Int),.slice none 0 0,.slice none 0 0]:=⟨_,rfl⟩
   have hah1:∀ i:Nat,(ah[i]!).oneCell'=true:=by rw [hah];exact one_lits (by simp [qbw,Value.oneCell'])
   obtain ⟨ca,hca⟩:∃ y,(cs.setIfInBounds 7 (.slice xe.A xe.z.size xe.c)).setIfInBounds 8 (.slice Ao (qai go).size co)=y:=⟨_,rfl⟩
   rw [hca] at F12
   have hcah:ca=hR x0 ah (.slice none 0 0) (.slice none 0 0) (.slice none 0 0) (.slice none 0 0):=by rw [←hca,HCS.out,hah];rfl
   have HCAH:=hI hcah
   have HAH:=hI hah
   have HAH1:=hI hah1
   have hcas:ca.size=18:=by rw [hcah];rfl
   clear hca hcah hah hah1
   have HHX:=hI (fun W=>HHE.out pc4 A4 lo.length c4 ah HAH1.out W)
   rw [←HCAH.out] at HHX
   obtain ⟨x1',x2',z3,z4⟩:=F12.out.cells
   have y1:=qav F12.out.r hcas
   have y2:=qbh F12.out.r
   go_wp2_with fail
   refine (HHX.out _).mono ?_
   rintro _ w13 ⟨pc5,A5,n5,c5,xk,xm,xf,xd,rfl,hk,hm,hf,hd,hms,hb13⟩
   clear y1 y2 HHX
   clear x1' x2' z3 z4
   have F13:=hI (F12.out.below hb13)
   have HMS:=hI hms
   have XE5:=hI (XE4.out.kf (KF.of_below hb13))
   have XO2:=hI (XO1.out.kf (KF.of_below hb13))
   have XK0:=hI (hk.mono (by have:=F12.out.lt;exact this:p5 + 1≤_))
   have XM0:=hI (hm.mono (by have:=F12.out.lt;exact this:p5 + 1≤_))
   have XF0:=hI (hf.mono (by have:=F12.out.lt;exact this:p5 + 1≤_))
   have XD0:=hI (hd.mono (by have:=F12.out.lt;exact this:p5 + 1≤_))
   clear hk hm hf hd hms hb13 F12 XE4 XO1
   obtain ⟨ch,hch⟩:∃ y,y=hR x0 ah (.slice xk.A xk.z.size xk.c) (.slice xm.A xm.z.size xm.c) (.slice xf.A xf.z.size xf.c) (.slice xd.A xd.z.size xd.c):=⟨_,rfl⟩
   have H1H:qbw ch=true:=by rw [hch];exact hR_one HAH1.out
   have HIH:ch.size=18:=by rw [hch];rfl
   rw [←hch]
   have HCH:=hI hch
   clear hch
   obtain ⟨x1',x2',z3,z4⟩:=F13.out.cells
   have hst:=qaq w13 p4 (dI s st16 pc5 (.slice A5 n5 c5)) x1' (qbk _ _ _ _) (qcn _ _ _ _ _ _)
   have y1:=qav ((setRow_other w13 p4 p5 (dI s st16 pc5 (.slice A5 n5 c5)) (by have:=F13.out.q;omega)).trans F13.out.r) hcas
   have hst2:=qbq (w13.setRow p4 (dI s st16 pc5 (.slice A5 n5 c5))) p5 ch y1 HIH H1H
   go_upto_region 11 with (fail)
   clear hst hst2 y1
   clear x1' x2' z3 z4
   have F14:=hI ((F13.out.set st16 pc5 A5 n5 c5).setr ch)
   have K14:KF (p5 + 1) w13 ((w13.setRow p4 (dI s st16 pc5 (.slice A5 n5 c5))).setRow p5 ch):=(KF.of_setRow (by have:=F13.out.q;omega) _ _).trans (KF.of_setRow (by omega) _ _)
   have XE6:=hI (XE5.out.kf K14)
   have XO3:=hI (XO2.out.kf K14)
   have XK1:=hI (XK0.out.kf K14)
   have XM1:=hI (XM0.out.kf K14)
   have XF1:=hI (XF0.out.kf K14)
   have XD1:=hI (XD0.out.kf K14)
   obtain ⟨w14,hw14⟩:∃ W,W=(w13.setRow p4 (dI s st16 pc5 (.slice A5 n5 c5))).setRow p5 ch:=⟨_,rfl⟩
   rw [←hw14] at F14 XE6 XO3 XK1 XM1 XF1 XD1 ⊢
   clear hw14 K14 F13 XE5 XO2 XK0 XM0 XF0 XD0
   obtain ⟨x1',x2',z3,z4⟩:=F14.out.cells
   go_wp2_with fail
   refine (HST.out _ _ _ _ _).mono ?_
   rintro _ w15 ⟨pc6,A6,n6,c6,xi,xs,rfl,hi,hs',hms,hb15⟩
   dsimp only at hms ⊢
   clear x1' x2' z3 z4
   have F15:=hI (F14.out.below hb15)
   have HMI:=hI hms
   have XI0:=hI (hi.mono (by have:=F14.out.lt;exact this:p5 + 1≤_))
   have XS0:=hI (hs'.mono (by have:=F14.out.lt;exact this:p5 + 1≤_))
   have K15:=hI (KF.of_below (m:=p5 + 1) hb15)
   clear hi hs' hms hb15 F14
   obtain ⟨x1',x2',z3,z4⟩:=F15.out.cells
   have hst:=qaq w15 p4 (dI s st17 pc6 (.slice A6 n6 c6)) x1' (qbk _ _ _ _) (qcn _ _ _ _ _ _)
   have cc:w15.cell? ⟨p5,16,none⟩=some (.slice none 0 0):=(qab F15.out.r 16).trans (by rw [HCH.out,HAH.out];rfl)
   have ff:=Lib.frozen_of_heap F15.out.r 16
   have cd:w15.cell? ⟨p5,17,none⟩=some (.slice none 0 0):=(qab F15.out.r 17).trans (by rw [HCH.out,HAH.out];rfl)
   have fd:=Lib.frozen_of_heap F15.out.r 17
   have fl:=qaa F15.out.r
   have g1:=(qfl (W:=w15) (g:=p4) (p:=p5) (i:=16) (by have:=F15.out.q;omega) (dI s st17 pc6 (.slice A6 n6 c6))).trans cc
   have g2:=(qfm (W:=w15) (g:=p4) (p:=p5) (i:=16) (by have:=F15.out.q;omega) (dI s st17 pc6 (.slice A6 n6 c6))).trans ff
   have g3:=(qfl (W:=w15) (g:=p4) (p:=p5) (i:=17) (by have:=F15.out.q;omega) (dI s st17 pc6 (.slice A6 n6 c6))).trans cd
   have g4:=(qfm (W:=w15) (g:=p4) (p:=p5) (i:=17) (by have:=F15.out.q;omega) (dI s st17 pc6 (.slice A6 n6 c6))).trans fd
   go_upto_region 12 with (fail)
   clear hst cc ff cd fd fl g1 g2 g3 g4
   clear x1' x2' z3 z4
   have F16:=hI (((F15.out.set st17 pc6 A6 n6 c6).setc 16 (.slice xi.A xi.z.size xi.c)).setc 17 (.slice xs.A xs.z.size xs.c))
   have K16:KF (p5 + 1) w15 (((w15.setRow p4 (dI s st17 pc6 (.slice A6 n6 c6))).setCell ⟨p5,16,none⟩ (.slice xi.A xi.z.size xi.c)).setCell ⟨p5,17,none⟩ (.slice xs.A xs.z.size xs.c)):=((KF.of_setRow (by have:=F15.out.q;omega) _ _).trans (KF.of_setCell (by show p5 < p5 + 1;omega) _ _)).trans (KF.of_setCell (by show p5 < p5 + 1;omega) _ _)
   have KK:=K15.out.trans K16
   have XE:=hI (XE6.out.kf KK)
   have XO:=hI (XO3.out.kf KK)
   have XK:=hI (XK1.out.kf KK)
   have XM:=hI (XM1.out.kf KK)
   have XF:=hI (XF1.out.kf KK)
   have XD:=hI (XD1.out.kf KK)
   have XI:=hI (XI0.out.kf K16)
   have XS:=hI (XS0.out.kf K16)
   obtain ⟨w16,hw16⟩:∃ W,W=((w15.setRow p4 (dI s st17 pc6 (.slice A6 n6 c6))).setCell ⟨p5,16,none⟩ (.slice xi.A xi.z.size xi.c)).setCell ⟨p5,17,none⟩ (.slice xs.A xs.z.size xs.c):=⟨_,rfl⟩
   rw [←hw16] at F16 XE XO XK XM XF XD XI XS ⊢
   clear hw16 KK K16 K15 F15 XE6 XO3 XK1 XM1 XF1 XD1 XI0 XS0
   obtain ⟨R,hRR⟩:∃ R:RP,R=⟨(x0:Int),(x1:Int),(x2:Int),(x3:Int),(x4:Int),(x5:Int),(x6:Int),xe,⟨Ao,co,qai go⟩,xk,xm,xf,xd,(x7:Int),(x8:Int),(x9:Int),xi,xs⟩:=⟨_,rfl⟩
   obtain ⟨cf,hcf⟩:∃ y,(ch.setIfInBounds 16 (.slice xi.A xi.z.size xi.c)).setIfInBounds 17 (.slice xs.A xs.z.size xs.c)=y:=⟨_,rfl⟩
   rw [hcf] at F16
   have HCF:Hid (cf=(encP R).toArray):=by show _=_;rw [←hcf,HCH.out,HAH.out,hRR];rfl
   have HIF:cf.size=18:=by rw [HCF.out];rfl
   have HRP:Hid (∀ W',KF (p5 + 1) w16 W'→RdP W' R):=fun W' hk=>by
    have ze:=XE.out.kf hk
    have zo:=XO.out.kf hk
    have zk:=XK.out.kf hk
    have zm:=XM.out.kf hk
    have zf:=XF.out.kf hk
    have zd:=XD.out.kf hk
    have zi:=XI.out.kf hk
    have zs':=XS.out.kf hk
    rw [hRR]
    exact ⟨⟨ze.rd,fun i hi=>(ze.el i hi).1⟩,⟨zo.rd,zo.no⟩,⟨zk.rd,zk.cz,zk.no⟩,fun i hi=>(zk.el i hi).1,⟨zm.rd,zm.cz,zm.no⟩,fun i hi=>(zm.el i hi).1,⟨zf.rd,zf.cz,zf.no⟩,⟨zd.rd,zd.cz,zd.no⟩,fun i hi=>(zd.el i hi).1,⟨zi.rd,zi.cz,zi.no⟩,⟨zs'.rd,zs'.cz,zs'.no⟩⟩
   have HRM:Hid (st17.r.e=0→repM R=(rd0 s.data.toList).2∧NN R):=fun h0=>by
    have me:=HME.out (B11.out h0)
    have mh:=HMS.out (B16.out h0)
    obtain ⟨mk,mm,mf,md⟩:=mh
    have ms:=HMI.out h0
    rw [hRR,EE.out]
    refine ⟨?_,⟨⟨Int.natCast_nonneg _,Int.natCast_nonneg _,Int.natCast_nonneg _,Int.natCast_nonneg _,Int.natCast_nonneg _,Int.natCast_nonneg _,Int.natCast_nonneg _,Int.natCast_nonneg _,Int.natCast_nonneg _,Int.natCast_nonneg _⟩,me.2,MO.out.2,mk.2,mm.2,mf.2,md.2,ms.1.2,ms.2.2⟩⟩
    show ((x0,[x1,x2,x3,x4,x5,x6,x7,x8,x9]),(xe.z.toList.map entM,(qbg (qai go),(xk.z.toList.map knM,(xm.z.toList.map (fun x=>intM x.z),(intM xf.z,(xd.z.toList.map (fun x=>qbg x.z),(xi.z.toList.map itM,xs.z.toList.map seM))))))))=_
    rw [me.1,MO.out.1,mk.1,mm.1,mf.1,md.1,ms.1.1,ms.2.1]
   have HRD0:Hid ((rd0 s.data.toList).1=st17):=by show _=_;rw [EE.out]
   clear hRR hcf HME HMS HMI HCH HAH HAH1 XE XO XK XM XF XD XI XS HCS HCAH hcas HIH H1H
   have q0:w16.cell? ⟨p4,0,none⟩=some (.string s):=(qab F16.out.x 0).trans rfl
   have q1:w16.cell? ⟨p4,1,none⟩=some (.int .i64 (st17.r.pos:Int)):=(qab F16.out.x 1).trans rfl
   have q2:w16.cell? ⟨p4,2,none⟩=some (.string pc6):=(qab F16.out.x 2).trans rfl
   have q3:w16.cell? ⟨p4,3,none⟩=some (.int .i64 (st17.r.e:Int)):=(qab F16.out.x 3).trans rfl
   have HEN:=hI (rEnd_any s pc6 st17.r w16)
   unfold inV at HEN
   go_wp2_with fail
   refine HEN.out.mono ?_
   rintro _ w17 ⟨hb17,pc7,rfl⟩
   clear q0 q1 q2 q3 HEN
   have F17:=hI (F16.out.below hb17)
   have K17:=hI (KF.of_below (m:=p5 + 1) hb17)
   clear hb17
   unfold inV
   dsimp only
   go_upto_region 13 with (fail)
   have hb18:=bel1 w17 (.cells #[.string s,.int .i64 ((endR s.data.toList st17.r).pos:Int),.string pc7,.int .i64 ((endR s.data.toList st17.r).e:Int)] 96)
   have F18:=hI (F17.out.below hb18)
   have K18:=hI (K17.out.trans (KF.of_below hb18))
   have Q18:Hid ((w17.alloc (.cells #[.string s,.int .i64 ((endR s.data.toList st17.r).pos:Int),.string pc7,.int .i64 ((endR s.data.toList st17.r).e:Int)] 96)).heap[w17.heap.size]?=some (.cells #[.string s,.int .i64 ((endR s.data.toList st17.r).pos:Int),.string pc7,.int .i64 ((endR s.data.toList st17.r).e:Int)] 96 (0,0))):=qah w17 _
   obtain ⟨w18,hw18⟩:∃ W,W=w17.alloc (.cells #[.string s,.int .i64 ((endR s.data.toList st17.r).pos:Int),.string pc7,.int .i64 ((endR s.data.toList st17.r).e:Int)] 96):=⟨_,rfl⟩
   obtain ⟨p6,hp6⟩:∃ p,p=w17.heap.size:=⟨_,rfl⟩
   have HP6:Hid (p5 < p6):=by show p5 < p6;rw [hp6];exact F17.out.lt
   rw [←hp6] at Q18
   rw [←hw18] at F18 K18 Q18
   rw [←hp6,←hw18]
   clear hw18 hp6 hb18 F17 K17 F16
   by_cases her:(endR s.data.toList st17.r).e=0
   ·have h3:w18.cell? ⟨p6,3,none⟩=some (.int .i64 0):=by have:=(qab Q18.out 3).trans rfl;rw [her] at this;exact this
    have HER:=hI her
    have HE0:Hid (st17.r.e=0):=((quw _ _).1 her).1
    clear her
    obtain ⟨od,hod⟩:∃ x,st17.odd=x:=⟨_,rfl⟩
    have h5:w18.cell? ⟨p4,5,none⟩=some (.bool od):=by rw [←hod];exact (qab F18.out.x 5).trans rfl
    have HOD:=hI hod
    clear hod
    cases od
    ·have HTK:Hid (tkE s.data.toList=0):=by
      show _=_
      unfold tkE
      rw [if_neg HSM.out,HRD0.out,if_neg (by rw [HER.out];simp),if_neg (by rw [HOD.out];simp)]
     have hM:=HRM.out HE0.out
     have hF:=qom (r:=R) (by rw [hM.1];exact (qsj HTK.out).2.2.1) hM.2
     have HM2:=hI hM
     have HCK:Hid (Calls Tryz.prog 30 #[.agg cf] w18 fun e w'=>e=.returned (.int .i64 (repW R))∧Below w18.heap.size w18 w'):=by
      have:=quz R w18 (HRP.out w18 K18.out) hF.c
      rw [←HCF.out] at this
      exact this
     obtain ⟨g,hgc⟩:∃ x,chkW R=x:=⟨_,rfl⟩
     unfold repW at HCK
     rw [hgc] at HCK
     have HGC:=hI hgc
     clear hgc hF hM
     have x1:=qav F18.out.r HIF
     have x2:=qbh F18.out.r
     go_wp2_with fail
     refine HCK.out.mono ?_
     rintro _ w19 ⟨rfl,hb19⟩
     have F19:=hI (F18.out.below hb19)
     have K19:=hI (K18.out.trans (KF.of_below hb19))
     clear hb19 x1 x2 h3 h5 HCK
     cases g
     ·simp only [Bool.false_eq_true,if_false]
      have x1:=qav F19.out.o (qde _)
      go_wp2
      refine bodyPost_ret (qbm rfl rfl (setRow_heap _ _ _ _ _ _ F19.out.o) rfl) rfl ?_
      exact ⟨default,2,rfl,Or.inr (Or.inl ⟨HTK.out,rfl,rfl,R,HM2.out.1,HM2.out.2,HGC.out⟩),qcq _,qbx F19.out.b F19.out.q.1 _⟩
     ·simp only [if_true]
      have x1:=qav F19.out.r HIF
      have x2:=qbh F19.out.r
      have x3:=qav F19.out.o (qde _)
      have H1F:qbw cf=true:=by rw [HCF.out];exact qfb R
      go_wp2
      refine bodyPost_ret (qbm rfl rfl (setRow_heap _ _ _ _ _ _ F19.out.o) HIF) rfl ?_
      refine ⟨R,0,by rw [HCF.out];rfl,Or.inr (Or.inr ⟨HTK.out,rfl,HM2.out.1,HM2.out.2,HGC.out⟩),HRP.out _ (K19.out.trans (KF.of_setRow (by have:=F19.out.q;omega) _ _)),qbx F19.out.b F19.out.q.1 _⟩
    ·have HTK:Hid (tkE s.data.toList=5):=by
      show _=_
      unfold tkE
      rw [if_neg HSM.out,HRD0.out,if_neg (by rw [HER.out];simp),if_pos (by rw [HOD.out])]
     have x1:=qav F18.out.o (qde _)
     go_wp2
     refine bodyPost_ret (qbm rfl rfl (setRow_heap _ _ _ _ _ _ F18.out.o) rfl) rfl ?_
     exact ⟨default,5,rfl,Or.inl ⟨by rw [HTK.out];decide,HTK.out.symm,rfl⟩,qcq _,qbx F18.out.b F18.out.q.1 _⟩
   ·have HTK:Hid (tkE s.data.toList=(endR s.data.toList st17.r).e):=by
     show _=_
     unfold tkE
     rw [if_neg HSM.out,HRD0.out,if_pos her]
    obtain ⟨c,hc⟩:∃ x,(endR s.data.toList st17.r).e=x:=⟨_,rfl⟩
    rw [hc] at HTK her Q18
    have h3:w18.cell? ⟨p6,3,none⟩=some (.int .i64 (c:Int)):=(qab Q18.out 3).trans rfl
    have hcn:((c:Int) != 0)=true:=by simpa using her
    have HER:=hI her
    clear hc her
    have KS2:Hid (∀ W:World,W.heap[p6]?=w18.heap[p6]?→W.cell? ⟨p6,3,none⟩=some (.int .i64 (c:Int))):=fun W h=>(qab (h.trans Q18.out) 3).trans rfl
    have HO:=hI F18.out.o
    go_wp2_with fail
    refine qat (S:=fun W=>W.cell? ⟨p6,3,none⟩=some (.int .i64 (c:Int))) (by kernel_rfl) ?_
    have hS:=KS2.out w18.drew rfl
    refine tkF 97 0 rfl rfl hS ?_
    simp only [Act.put,sA,s0,s1]
    refine tkF 98 1 rfl rfl hS ?_
    simp only [Act.put,sA,s0,s1]
    refine tkF 99 2 rfl rfl hS ?_
    simp only [Act.put,sA,s0,s1]
    clear hS
    obtain ⟨cz,hcz⟩:∃ y,y=(encP (default:RP)).toArray:=⟨_,rfl⟩
    have hs1:=qcd w18.drew p2 _ (encP (default:RP)).toArray cz HO.out (by rw [hcz]) (by rw [hcz];exact qfb _)
    have HCZ:=hI hcz
    have hzz:cz.size=18:=by rw [hcz];rfl
    rw [hz_D] at hcz
    rw [←hcz]
    clear hcz
    refine rdy1 3 rfl (fun K hK=>?_)
    go_simp
    refine hK.out _ _ (KS2.out _ (setRow_other w18.drew p2 p6 _ (by have:=F18.out.q;have:=HP6.out;omega))) (fun _=>?_)
    clear hK K hs1
    refine rdyL 4 rfl (fun K hK=>?_)
    go_simp
    refine hK.out _ _ ?_
    clear hK K
    refine qas (by kernel_rfl) ?_ _
    go_wp2
    refine bodyPost_ret (qbm rfl rfl (setRow_heap _ _ _ _ _ _ HO.out) (by rw [HCZ.out];rfl)) rfl ?_
    exact ⟨default,c,by rw [HCZ.out];rfl,Or.inl ⟨by rw [HTK.out];exact HER.out,HTK.out.symm,rfl⟩,qcq _,qbx (F18.out.b.drew) F18.out.q.1 _⟩
end Go.Proofs.YtnmojicfmcbgmaaGreatDoor
