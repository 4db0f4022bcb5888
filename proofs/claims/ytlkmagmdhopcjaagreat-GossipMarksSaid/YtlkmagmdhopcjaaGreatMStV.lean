/- Texts that the law leans on. -/
import Derived.Test.YtlkmagmdhopcjaaGreatMStG
import Derived.Test.YtlkmagmdhopcjaaGreatMStI
import Derived.Test.YtlkmagmdhopcjaaGreatMTbE
import Derived.Test.YtlkmagmdhopcjaaGreatMVoA
import Derived.Test.YtlkmagmdhopcjaaGreatMRangesF
import Derived.Test.YtlkmagmdhopcjaaGreatMRangesM
import Derived.Test.YtlkmagmdhopcjaaGreatMStN
import Derived.Test.YtlkmagmdhopcjaaGreatMRead
import Derived.Test.YtlkmagmdhopcjaaGreatMDelA
import Derived.Test.YtlkmagmdhopcjaaGreatMSortJ
import Derived.Test.YtlkmagmdhopcjaaGreatMOpenK
import Derived.Test.YtlkmagmdhopcjaaGreatMBoxG
import Derived.BigGuardPart
import Derived.Test.YtlkmagmdhopcjaaGreatMAnyE
namespace Go.Proofs.YtlkmagmdhopcjaaGreat
open Go.RowKit Go.Sort Go.Lib
set_option maxRecDepth 100000
attribute [local go_sem ↓] qak qai
attribute [local go_sem] qao qaj qah qaq qbd
theorem BoxG.box {w W:World} {g:Nat} {cs:Array Value} {t:TypeId} (h:BoxG w g cs t W) {n:Nat} (hn:cs.size=n):qap W g n=true:=qbl h.row hn
theorem BoxG.rowAt {w W:World} {g:Nat} {cs:Array Value} {t:TypeId} (h:BoxG w g cs t W):rowAt W g=cs:=qcf h.row
theorem BoxG.froz {w W:World} {g:Nat} {cs:Array Value} {t:TypeId} (h:BoxG w g cs t W) (j:Nat):W.frozen? ⟨g,j,none⟩=false:=by
 have:=h.row
 simp [World.frozen?,this]
theorem BoxG.set {w W:World} {g:Nat} {cs:Array Value} {t:TypeId} (h:BoxG w g cs t W) (hg:w.heap.size≤g) (j:Nat) (v:Value):BoxG w g (cs.setIfInBounds j v) t (W.setCell ⟨g,j,none⟩ v) :=
 ⟨h.b.setCell (p:=⟨g,j,none⟩) hg v,heap_setCell_same W g j cs t v h.row⟩
theorem BoxG.far {w W:World} {g g2:Nat} {cs:Array Value} {t:TypeId} (h:BoxG w g cs t W) (hg:w.heap.size≤g2) (hne:g≠g2) (j:Nat) (v:Value):BoxG w g cs t (W.setCell ⟨g2,j,none⟩ v) :=
 ⟨h.b.setCell (p:=⟨g2,j,none⟩) hg v,(heap_setCell_other W ⟨g2,j,none⟩ g v (by simpa using hne)).trans h.row⟩
section
variable (w:World) (a b c:Array Value) (s t u:TypeId)
theorem BoxG.t1:BoxG w w.heap.size a s (((w.alloc (.cells a s)).alloc (.cells b t)).alloc (.cells c u)) :=
 ⟨qab (qab (bel1 w _) _) _,qcj (qcj (heap_alloc_new w _))⟩
theorem BoxG.t2:BoxG w (w.heap.size + 1) b t (((w.alloc (.cells a s)).alloc (.cells b t)).alloc (.cells c u)) :=
 ⟨qab (qab (bel1 w _) _) _,qcj (heap_alloc2_new w _ _)⟩
theorem BoxG.t3:BoxG w (w.heap.size + 1 + 1) c u (((w.alloc (.cells a s)).alloc (.cells b t)).alloc (.cells c u)):=by
 refine ⟨qab (qab (bel1 w _) _) _,?_⟩
 have:=heap_alloc_new ((w.alloc (.cells a s)).alloc (.cells b t)) (.cells c u)
 rwa [show ((w.alloc (.cells a s)).alloc (.cells b t)).heap.size=w.heap.size + 1 + 1 by simp] at this
end
theorem rowP {cs:Array Value} {r:RP} (h:cs=(encP r).toArray):cs.size=18∧qbt cs=true:=by
 subst h
 exact ⟨rfl,qwb r⟩
end Go.Proofs.YtlkmagmdhopcjaaGreat
namespace Go.Proofs.YtlkmagmdhopcjaaGreat
open Go.RowKit Go.Sort Go.Lib
set_option maxRecDepth 100000
def clrE (e:EN):EN:={ e with A:=none,c:=0,z:=#[] }
theorem qsk {fn:Func} {t:Tmp} (hf:fn.results=#[.cell t 58]) {tm:Array Value} {W:World} {g:Nat} {cs:Array Value} {T:TypeId} (hg:tm.getD t undef=.pointer (some ⟨g,0,none⟩)) (h:W.heap[g]?=some (.cells cs T (0,0))) (hc:cs.size=10):(results fn tm).run Tryz.prog W=.ok (.agg cs) W:=by
 have hg2:tm[t]?.getD undef=.pointer (some ⟨g,0,none⟩):=by rw [←Array.getD_eq_getD_getElem?];exact hg
 have hl:(loadVar 58 ⟨g,0,none⟩).run Tryz.prog W=.ok (.agg cs) W:=run_loadVar_row W g T 58 cs (0,0) _ h Tryz.underlying58 rfl (by rw [hc];kernel_rfl)
 simp [results,hf,hg2,asAddr,hl]
theorem qhm {fn:Func} {t u:Tmp} (hf:fn.results=#[.cell t 58,.cell u 48]) {tm:Array Value} {W:World} {g q:Nat} {cs:Array Value} {x:Int} {T T':TypeId} (hg:tm.getD t undef=.pointer (some ⟨g,0,none⟩)) (hq:tm.getD u undef=.pointer (some ⟨q,0,none⟩)) (h:W.heap[g]?=some (.cells cs T (0,0))) (h2:W.heap[q]?=some (.cells #[.int .i64 x] T' (0,0))) (hc:cs.size=10):(results fn tm).run Tryz.prog W=.ok (.tuple #[.agg cs,.int .i64 x]) W:=by
 have hg2:tm[t]?.getD undef=.pointer (some ⟨g,0,none⟩):=by rw [←Array.getD_eq_getD_getElem?];exact hg
 have hq2:tm[u]?.getD undef=.pointer (some ⟨q,0,none⟩):=by rw [←Array.getD_eq_getD_getElem?];exact hq
 have hl:(loadVar 58 ⟨g,0,none⟩).run Tryz.prog W=.ok (.agg cs) W:=run_loadVar_row W g T 58 cs (0,0) _ h Tryz.underlying58 rfl (by rw [hc];kernel_rfl)
 have c0:W.cell? ⟨q,0,none⟩=some (.int .i64 x):=(cell_of_row W _ 0 _ _ (0,0) h2).trans rfl
 have hx:(loadVar 48 ⟨q,0,none⟩).run Tryz.prog W=.ok (.int .i64 x) W:=by
  simp [go_sem,loadVar,c0]
 simp [results,hf,hg2,hq2,asAddr,hl,hx]
set_option maxHeartbeats 4000000 in
theorem qnf (e:EN) (w:World):Calls Tryz.prog 247 #[.agg (encE e).toArray] w fun r w'=>r=.returned (.agg (encE (clrE e)).toArray)∧Below w.heap.size w w':=by
 obtain ⟨cc,hcc⟩:∃ cc,(encE (clrE e)).toArray=cc:=⟨_,rfl⟩
 have HCC:Hid (cc=#[.int .i64 e.id,.int .i64 e.ph,.int .i64 e.qu,.int .i64 e.t,.int .i64 e.bal,.int .i64 e.abal,.int .i64 e.seen,.int .i64 e.age,.string e.pay,.slice none 0 0]):=hcc.symm
 have hsz:cc.size=10:=by rw [←hcc];rfl
 rw [hcc]
 clear hcc
 simp only [encE]
 go_enter Tryz.func247,Tryz.ntmps247
 go_wp2
 exact bodyPost_ret (qsk rfl rfl (heap_alloc2_new w _ _) rfl) rfl ⟨by rw [HCC.out],qab (bel1 w _) _⟩
def prB (e:EN) (ballot t:Int):EN:=clrE { (if e.bal=0 then qkm e 3 else e) with t:=if qkn e=true then t else e.t,bal:=ballot }
structure PrW (w:World) (n g:Nat) (e b:EN) (W:World):Prop where
 bo:BoAt W g e b 0
 pe:W.heap[n]?=some (.cells (encE e).toArray 58 (0,0))
 po:W.heap[n + 1]?=some (.cells zE 58 (0,0))
 px:W.heap[n + 1 + 1]?=some (.cells #[.int .i64 0] 48 (0,0))
 b:Below w.heap.size w W
 ng:n + 1 + 1 < g
 wn:w.heap.size≤n
theorem PrW.below {w W W':World} {n g:Nat} {e b:EN} (h:PrW w n g e b W) (hb:Below W.heap.size W W'):PrW w n g e b W' :=
 ⟨h.bo.below hb,(hb.block _ (qal h.pe)).trans h.pe,(hb.block _ (qal h.po)).trans h.po,(hb.block _ (qal h.px)).trans h.px,qaa h.b hb,h.ng,h.wn⟩
theorem PrW.step {w W W':World} {n g:Nat} {e b b':EN} (h:PrW w n g e b W) (h':BoAt W' g e b' 0) (k:ButG g W W'):PrW w n g e b' W':=by
 have hn:=h.ng
 have hw:=h.wn
 exact ⟨h',(k.block _ (qal h.pe) (by omega)).trans h.pe,(k.block _ (qal h.po) (by omega)).trans h.po,(k.block _ (qal h.px) (by omega)).trans h.px,k.below h.b (by omega) h.b.size,hn,hw⟩
theorem PrW.set {w W:World} {n g:Nat} {e b b':EN} (h:PrW w n g e b W) (j:Nat) (v:Value) (hb:(boC e b 0).setIfInBounds j v=boC e b' 0):PrW w n g e b' (W.setCell ⟨g,j,none⟩ v) :=
 h.step (by show _=_;rw [←hb];exact qfr h.bo j v) ((ButG.refl g W).set j v)
theorem nx3 {e:EN} (hc:qcp e=true) (ho:qee e.ph=false):nxE e.ph 3=0:=by
 have hh:1≤e.ph∧e.ph≤6:=by
  unfold qcp at hc
  simp only [Bool.and_eq_true,decide_eq_true_eq] at hc
  have h1:=hc.1.1.1.1
  unfold qsv at h1
  omega
 unfold nxE
 have hl:qmn e.ph 3=true:=by unfold qmn;simp [ho]
 rw [if_neg (by omega),if_neg (by omega),if_pos hl]
theorem butL {g:Nat}:∀ (l:List Value) (i:Nat) (w W:World),ButG g w W→ButG g w (setL W g l i)
 | [],_,_,_,h=>h
 | _ :: l,i,w,_,h=>butL l (i + 1) w _ (h.set i _)
theorem qui (e b b':EN):setA (boC e b 0) (encE b') 10=boC e b' 0:=by simp [setA,boC,encE]
set_option maxHeartbeats 16000000 in
theorem quj (e:EN) (ballot t:Int) (w:World) (hr:RdE w e) (hz:e.z.size≤e.c) (hc:qcp e=true) (hv:vtB ballot=true) (ht:qkn e=true→vtB t=true) (ho:qee e.ph=false) (hb:e.bal < ballot) :
 Calls Tryz.prog 197 #[.agg (encE e).toArray,.int .i64 ballot,.int .i64 t] w fun r w'=>r=.returned (.tuple #[.agg (encE (prB e ballot t)).toArray,.int .i64 0])∧Below w.heap.size w w':=by
 have HEn:Hid (∀ W,Below w.heap.size w W→Calls Tryz.prog 240 #[.agg (encE e).toArray] W fun r w'=>(∃ g,r=.returned (.pointer (some ⟨g,0,none⟩))∧BoAt w' g e e 0∧W.heap.size≤g)∧Below W.heap.size W w'):=fun W hb=>by
  have:=enter_any e W (hr.below hb) hz
  rwa [show enE e=0 by unfold enE;rw [if_pos hc]] at this
 have HVo:Hid (∀ W,Calls Tryz.prog 243 #[.int .i64 ballot] W fun e w'=>e=.returned (.bool true)∧W=w'):=fun W=>by have:=voted_any ballot W;rwa [hv] at this
 have HOp:Hid (qun 0 (!qee e.ph) 33=0):=by show _=_;rw [ho];rfl
 have HNx:Hid (qun 0 (decide (nxE e.ph 3=0)) 33=0):=by show _=_;rw [nx3 hc ho];rfl
 have hbl:decide (e.bal < ballot)=true:=decide_eq_true hb
 have hmf:∀ (fn:Fn) (first cap:Array Value) (w:World),(Instr.makeFunc fn first cap).run Tryz.prog w=.ok (.func fn first cap) w:=fun _ _ _ _=>rfl
 by_cases hn:qkn e=true
 ·have HNd:Hid (∀ W,Below w.heap.size w W→Calls Tryz.prog 195 #[.agg (encE e).toArray] W fun r w'=>r=.returned (.bool true)∧Below W.heap.size W w'):=fun W hb=>by have:=qnk e W (hr.below hb) hz;rwa [hn] at this
  have HTi:Hid (∀ W,Calls Tryz.prog 244 #[.int .i64 t] W fun e w'=>e=.returned (.bool true)∧W=w'):=fun W=>by have:=vTime_any t W;rwa [ht hn] at this
  have hb0:e.bal=0:=by
   unfold qkn at hn
   simp only [Bool.and_eq_true,decide_eq_true_eq] at hn
   exact hn.2
  have HPB:Hid (prB e ballot t=clrE { qkm e 3 with t:=t,bal:=ballot }):=by show _=_;unfold prB;rw [if_pos hb0,if_pos hn]
  have hb0':(e.bal == 0)=true:=by simp [hb0]
  simp only [encE] at HEn HNd ⊢
  obtain ⟨pb,hpb⟩:∃ p,prB e ballot t=p:=⟨_,rfl⟩
  rw [hpb] at HPB ⊢
  clear hr hz hc hv ht ho hn hb hb0 hpb
  go_enter_defers Tryz.func197,Tryz.ntmps197
  go_upto_region 1 with fail
  have HE0:Hid ((((w.alloc (.cells #[.int .i64 e.id,.int .i64 e.ph,.int .i64 e.qu,.int .i64 e.t,.int .i64 e.bal,.int .i64 e.abal,.int .i64 e.seen,.int .i64 e.age,.string e.pay,.slice e.A e.z.size e.c] 58)).alloc (.cells zE 58)).alloc (.cells #[.int .i64 0] 48)).heap[w.heap.size]?=some (.cells (encE e).toArray 58 (0,0))):=(BoxG.t1 w _ _ _ _ _ _).row
  have HO0:Hid ((((w.alloc (.cells #[.int .i64 e.id,.int .i64 e.ph,.int .i64 e.qu,.int .i64 e.t,.int .i64 e.bal,.int .i64 e.abal,.int .i64 e.seen,.int .i64 e.age,.string e.pay,.slice e.A e.z.size e.c] 58)).alloc (.cells zE 58)).alloc (.cells #[.int .i64 0] 48)).heap[w.heap.size + 1]?=some (.cells zE 58 (0,0))):=(BoxG.t2 w _ _ _ _ _ _).row
  have HX0:Hid ((((w.alloc (.cells #[.int .i64 e.id,.int .i64 e.ph,.int .i64 e.qu,.int .i64 e.t,.int .i64 e.bal,.int .i64 e.abal,.int .i64 e.seen,.int .i64 e.age,.string e.pay,.slice e.A e.z.size e.c] 58)).alloc (.cells zE 58)).alloc (.cells #[.int .i64 0] 48)).heap[w.heap.size + 1 + 1]?=some (.cells #[.int .i64 0] 48 (0,0))):=(BoxG.t3 w _ _ _ _ _ _).row
  have HB0:Hid (Below w.heap.size w (((w.alloc (.cells #[.int .i64 e.id,.int .i64 e.ph,.int .i64 e.qu,.int .i64 e.t,.int .i64 e.bal,.int .i64 e.abal,.int .i64 e.seen,.int .i64 e.age,.string e.pay,.slice e.A e.z.size e.c] 58)).alloc (.cells zE 58)).alloc (.cells #[.int .i64 0] 48))):=(BoxG.t1 w _ _ _ _ _ _).b
  simp only [zE] at HE0 HO0 HX0 HB0
  obtain ⟨n,hn⟩:∃ n,n=w.heap.size:=⟨_,rfl⟩
  have HWN:Hid (w.heap.size≤n):=by show _≤_;omega
  generalize (((w.alloc (.cells #[.int .i64 e.id,.int .i64 e.ph,.int .i64 e.qu,.int .i64 e.t,.int .i64 e.bal,.int .i64 e.abal,.int .i64 e.seen,.int .i64 e.age,.string e.pay,.slice e.A e.z.size e.c] 58)).alloc (.cells #[.int .i64 0,.int .i64 0,.int .i64 0,.int .i64 0,.int .i64 0,.int .i64 0,.int .i64 0,.int .i64 0,.string ⟨#[]⟩,.slice none 0 0] 58)).alloc (.cells #[.int .i64 0] 48))=w0 at HE0 HO0 HX0 HB0 ⊢
  rw [←hn] at HE0 HO0 HX0 ⊢
  clear hn
  have c0:=qay HE0.out 0 (v:=.int .i64 e.id) rfl
  have c1:=qay HE0.out 1 (v:=.int .i64 e.ph) rfl
  have c2:=qay HE0.out 2 (v:=.int .i64 e.qu) rfl
  have c3:=qay HE0.out 3 (v:=.int .i64 e.t) rfl
  have c4:=qay HE0.out 4 (v:=.int .i64 e.bal) rfl
  have c5:=qay HE0.out 5 (v:=.int .i64 e.abal) rfl
  have c6:=qay HE0.out 6 (v:=.int .i64 e.seen) rfl
  have c7:=qay HE0.out 7 (v:=.int .i64 e.age) rfl
  have c8:=qay HE0.out 8 (v:=.string e.pay) rfl
  have c9:=qay HE0.out 9 (v:=.slice e.A e.z.size e.c) rfl
  go_upto_region 2 with (go_at_call 240;refine (HEn.out _ HB0.out).mono ?_;rintro _ w1 ⟨⟨g,rfl,hbo,hg⟩,hb⟩;have HP1:Hid (PrW w n g e e w1):=hI ⟨hbo,(hb.block _ (qal HE0.out)).trans HE0.out,(hb.block _ (qal HO0.out)).trans HO0.out,(hb.block _ (qal HX0.out)).trans HX0.out,qaa HB0.out hb,Nat.lt_of_lt_of_le (qal HX0.out) hg,HWN.out⟩;clear hbo hb hg c0 c1 c2 c3 c4 c5 c6 c7 c8 c9)
  clear HE0 HO0 HX0 HB0
  have c0:=qay HP1.out.pe 0 (v:=.int .i64 e.id) rfl
  have c1:=qay HP1.out.pe 1 (v:=.int .i64 e.ph) rfl
  have c2:=qay HP1.out.pe 2 (v:=.int .i64 e.qu) rfl
  have c3:=qay HP1.out.pe 3 (v:=.int .i64 e.t) rfl
  have c4:=qay HP1.out.pe 4 (v:=.int .i64 e.bal) rfl
  have c5:=qay HP1.out.pe 5 (v:=.int .i64 e.abal) rfl
  have c6:=qay HP1.out.pe 6 (v:=.int .i64 e.seen) rfl
  have c7:=qay HP1.out.pe 7 (v:=.int .i64 e.age) rfl
  have c8:=qay HP1.out.pe 8 (v:=.string e.pay) rfl
  have c9:=qay HP1.out.pe 9 (v:=.slice e.A e.z.size e.c) rfl
  go_upto_region 4 with (go_at_call 195;refine (HNd.out _ HP1.out.b).mono ?_;rintro _ w3 ⟨rfl,hb⟩;have HP3:=hI (HP1.out.below hb);clear hb c0 c1 c2 c3 c4 c5 c6 c7 c8 c9)
  clear HP1 HNd HEn
  go_upto_region 5 with (first | (go_at_call 243;refine (HVo.out _).mono ?_;rintro _ _ ⟨rfl,rfl⟩) | (go_at_call 244;refine (HTi.out _).mono ?_;rintro _ _ ⟨rfl,rfl⟩) | (go_at_call 242;refine (qfd g e e 0 2 true _ HP3.out.bo).mono ?_;rintro _ w4 ⟨rfl,h1,h2⟩;have HP4:Hid (PrW w n g e e w4):=hI (HP3.out.step h1 h2);clear h1 h2))
  go_upto_region 6 with (go_at_call 245;refine (qnj g e e 0 _ HP4.out.bo).mono ?_;rintro _ w5 ⟨rfl,h1,h2⟩;have HP5:Hid (PrW w n g e e w5):=hI (HP4.out.step (by rw [HOp.out] at h1;exact h1) h2);clear h1 h2;have c4:=qay HP5.out.pe 4 (v:=.int .i64 e.bal) rfl)
  go_upto_region 7 with (go_at_call 242;refine (qfd g e e 0 45 true _ HP5.out.bo).mono ?_;rintro _ w6 ⟨rfl,h1,h2⟩;have HP6:Hid (PrW w n g e e w6):=hI (HP5.out.step h1 h2);clear h1 h2 c4;have c4:=qay HP6.out.pe 4 (v:=.int .i64 e.bal) rfl)
  go_upto_region 9 with (go_at_call 246;refine (qso g e e 0 3 _ HP6.out.bo).mono ?_;rintro _ w8 ⟨rfl,h1,h2⟩;have HP8:Hid (PrW w n g e (qkm e 3) w8):=hI (HP6.out.step (by rw [HNx.out] at h1;exact h1) h2);clear h1 h2 c4)
  obtain ⟨b1,hb1⟩:∃ b,b=(qkm e 3):=⟨_,rfl⟩
  rw [←hb1] at HP8
  have HB1:=hI hb1
  clear hb1
  have c13:=HP8.out.bo.at_ 13 (v:=.int .i64 b1.t) rfl
  have f13:=HP8.out.bo.froz 13
  go_upto_region 11 with fail
  have HP10:Hid (PrW w n g e { b1 with t:=t } (w8.setCell ⟨g,13,none⟩ (.int .i64 t))):=hI (HP8.out.set 13 _ rfl)
  clear c13 f13
  generalize w8.setCell ⟨g,13,none⟩ (.int .i64 t)=w10 at HP10 ⊢
  have c14:=HP10.out.bo.at_ 14 (v:=.int .i64 b1.bal) rfl
  have f14:=HP10.out.bo.froz 14
  go_upto_region 12 with fail
  obtain ⟨b2,hb2⟩:∃ b:EN,b={ b1 with t:=t,bal:=ballot }:=⟨_,rfl⟩
  have HP11:Hid (PrW w n g e b2 (w10.setCell ⟨g,14,none⟩ (.int .i64 ballot))):=hI (HP10.out.set 14 _ (by rw [hb2];rfl))
  have HB2:=hI hb2
  clear c14 f14 hb2
  generalize w10.setCell ⟨g,14,none⟩ (.int .i64 ballot)=w11 at HP11 ⊢
  have d0:=HP11.out.bo.at_ 10 (v:=.int .i64 b2.id) rfl
  have d1:=HP11.out.bo.at_ 11 (v:=.int .i64 b2.ph) rfl
  have d2:=HP11.out.bo.at_ 12 (v:=.int .i64 b2.qu) rfl
  have d3:=HP11.out.bo.at_ 13 (v:=.int .i64 b2.t) rfl
  have d4:=HP11.out.bo.at_ 14 (v:=.int .i64 b2.bal) rfl
  have d5:=HP11.out.bo.at_ 15 (v:=.int .i64 b2.abal) rfl
  have d6:=HP11.out.bo.at_ 16 (v:=.int .i64 b2.seen) rfl
  have d7:=HP11.out.bo.at_ 17 (v:=.int .i64 b2.age) rfl
  have d8:=HP11.out.bo.at_ 18 (v:=.string b2.pay) rfl
  have d9:=HP11.out.bo.at_ 19 (v:=.slice b2.A b2.z.size b2.c) rfl
  have HCl:=hI (qnf b2 w11)
  simp only [encE,clrE] at HCl
  go_wp2_with (go_at_call 247;refine HCl.out.mono ?_;rintro _ w12 ⟨rfl,hb⟩;have HP12:=hI (HP11.out.below hb);clear hb d0 d1 d2 d3 d4 d5 d6 d7 d8 d9;have d0:=HP12.out.bo.at_ 10 (v:=.int .i64 b2.id) rfl;have d1:=HP12.out.bo.at_ 11 (v:=.int .i64 b2.ph) rfl;have d2:=HP12.out.bo.at_ 12 (v:=.int .i64 b2.qu) rfl;have d3:=HP12.out.bo.at_ 13 (v:=.int .i64 b2.t) rfl;have d4:=HP12.out.bo.at_ 14 (v:=.int .i64 b2.bal) rfl;have d5:=HP12.out.bo.at_ 15 (v:=.int .i64 b2.abal) rfl;have d6:=HP12.out.bo.at_ 16 (v:=.int .i64 b2.seen) rfl;have d7:=HP12.out.bo.at_ 17 (v:=.int .i64 b2.age) rfl;have d8:=HP12.out.bo.at_ 18 (v:=.string b2.pay) rfl;have d9:=HP12.out.bo.at_ 19 (v:=.slice b2.A b2.z.size b2.c) rfl;have f0:=HP12.out.bo.froz 10;have f1:=HP12.out.bo.froz 11;have f2:=HP12.out.bo.froz 12;have f3:=HP12.out.bo.froz 13;have f4:=HP12.out.bo.froz 14;have f5:=HP12.out.bo.froz 15;have f6:=HP12.out.bo.froz 16;have f7:=HP12.out.bo.froz 17;have f8:=HP12.out.bo.froz 18;have f9:=HP12.out.bo.froz 19)
  obtain ⟨w13,hw13⟩:∃ W,W=setL w12 g (encE (clrE b2)) 10:=⟨_,rfl⟩
  have HP13:Hid (PrW w n g e (clrE b2) w13):=by
   show PrW _ _ _ _ _ _
   rw [hw13]
   exact HP12.out.step (by show _=_;rw [←qui e b2 (clrE b2)];exact qgk _ _ _ _ HP12.out.bo) (butL _ _ _ _ (ButG.refl g w12))
  simp only [encE,clrE,setL,Nat.reduceAdd,Array.size_empty] at hw13
  try rw [←hw13]
  clear hw13 d0 d1 d2 d3 d4 d5 d6 d7 d8 d9 f0 f1 f2 f3 f4 f5 f6 f7 f8 f9 HCl HP12 HP11 HP10 HP8
  refine leaves_cons (f:=241) (args:=#[.pointer (some ⟨g,0,none⟩),.pointer (some ⟨n + 1,0,none⟩),.pointer (some ⟨n + 1 + 1,0,none⟩)]) (by simp) (by simp [go_sem]) ?_
  have hng:=HP13.out.ng
  refine (quo g (n + 1) (n + 1 + 1) e (clrE b2) 0 _ _ .returning w13 HP13.out.bo HP13.out.po HP13.out.px (by omega) (by omega) (by omega)).mono ?_
  rintro r u' w14 ⟨rfl,rfl,hp,hq,hbp⟩
  rw [if_pos rfl] at hp
  refine ⟨_,qhm rfl rfl rfl hp hq rfl,?_,?_⟩
  ·rw [HPB.out,HB2.out,HB1.out];rfl
  ·exact HP13.out.b.trans ⟨hbp.os,hbp.tape,hbp.output,hbp.size,fun k hk=>hbp.block k (by have:=HP13.out.wn;omega) (by have:=HP13.out.wn;omega)⟩
 ·have hnf:qkn e=false:=by simpa using hn
  have HNd:Hid (∀ W,Below w.heap.size w W→Calls Tryz.prog 195 #[.agg (encE e).toArray] W fun r w'=>r=.returned (.bool false)∧Below W.heap.size W w'):=fun W hb=>by have:=qnk e W (hr.below hb) hz;rwa [hnf] at this
  by_cases hb0:e.bal=0
  ·have HPB:Hid (prB e ballot t=clrE { qkm e 3 with t:=(qkm e 3).t,bal:=ballot }):=by
    show _=_
    unfold prB
    rw [if_pos hb0,if_neg hn]
    unfold qkm
    split <;> rfl
   have hb0':(e.bal == 0)=true:=by simp [hb0]
   simp only [encE] at HEn HNd ⊢
   obtain ⟨pb,hpb⟩:∃ p,prB e ballot t=p:=⟨_,rfl⟩
   rw [hpb] at HPB ⊢
   clear hr hz hc hv ht ho hn hb hb0 hpb hnf
   go_enter_defers Tryz.func197,Tryz.ntmps197
   go_upto_region 1 with fail
   have HE0:Hid ((((w.alloc (.cells #[.int .i64 e.id,.int .i64 e.ph,.int .i64 e.qu,.int .i64 e.t,.int .i64 e.bal,.int .i64 e.abal,.int .i64 e.seen,.int .i64 e.age,.string e.pay,.slice e.A e.z.size e.c] 58)).alloc (.cells zE 58)).alloc (.cells #[.int .i64 0] 48)).heap[w.heap.size]?=some (.cells (encE e).toArray 58 (0,0))):=(BoxG.t1 w _ _ _ _ _ _).row
   have HO0:Hid ((((w.alloc (.cells #[.int .i64 e.id,.int .i64 e.ph,.int .i64 e.qu,.int .i64 e.t,.int .i64 e.bal,.int .i64 e.abal,.int .i64 e.seen,.int .i64 e.age,.string e.pay,.slice e.A e.z.size e.c] 58)).alloc (.cells zE 58)).alloc (.cells #[.int .i64 0] 48)).heap[w.heap.size + 1]?=some (.cells zE 58 (0,0))):=(BoxG.t2 w _ _ _ _ _ _).row
   have HX0:Hid ((((w.alloc (.cells #[.int .i64 e.id,.int .i64 e.ph,.int .i64 e.qu,.int .i64 e.t,.int .i64 e.bal,.int .i64 e.abal,.int .i64 e.seen,.int .i64 e.age,.string e.pay,.slice e.A e.z.size e.c] 58)).alloc (.cells zE 58)).alloc (.cells #[.int .i64 0] 48)).heap[w.heap.size + 1 + 1]?=some (.cells #[.int .i64 0] 48 (0,0))):=(BoxG.t3 w _ _ _ _ _ _).row
   have HB0:Hid (Below w.heap.size w (((w.alloc (.cells #[.int .i64 e.id,.int .i64 e.ph,.int .i64 e.qu,.int .i64 e.t,.int .i64 e.bal,.int .i64 e.abal,.int .i64 e.seen,.int .i64 e.age,.string e.pay,.slice e.A e.z.size e.c] 58)).alloc (.cells zE 58)).alloc (.cells #[.int .i64 0] 48))):=(BoxG.t1 w _ _ _ _ _ _).b
   simp only [zE] at HE0 HO0 HX0 HB0
   obtain ⟨n,hn⟩:∃ n,n=w.heap.size:=⟨_,rfl⟩
   have HWN:Hid (w.heap.size≤n):=by show _≤_;omega
   generalize (((w.alloc (.cells #[.int .i64 e.id,.int .i64 e.ph,.int .i64 e.qu,.int .i64 e.t,.int .i64 e.bal,.int .i64 e.abal,.int .i64 e.seen,.int .i64 e.age,.string e.pay,.slice e.A e.z.size e.c] 58)).alloc (.cells #[.int .i64 0,.int .i64 0,.int .i64 0,.int .i64 0,.int .i64 0,.int .i64 0,.int .i64 0,.int .i64 0,.string ⟨#[]⟩,.slice none 0 0] 58)).alloc (.cells #[.int .i64 0] 48))=w0 at HE0 HO0 HX0 HB0 ⊢
   rw [←hn] at HE0 HO0 HX0 ⊢
   clear hn
   have c0:=qay HE0.out 0 (v:=.int .i64 e.id) rfl
   have c1:=qay HE0.out 1 (v:=.int .i64 e.ph) rfl
   have c2:=qay HE0.out 2 (v:=.int .i64 e.qu) rfl
   have c3:=qay HE0.out 3 (v:=.int .i64 e.t) rfl
   have c4:=qay HE0.out 4 (v:=.int .i64 e.bal) rfl
   have c5:=qay HE0.out 5 (v:=.int .i64 e.abal) rfl
   have c6:=qay HE0.out 6 (v:=.int .i64 e.seen) rfl
   have c7:=qay HE0.out 7 (v:=.int .i64 e.age) rfl
   have c8:=qay HE0.out 8 (v:=.string e.pay) rfl
   have c9:=qay HE0.out 9 (v:=.slice e.A e.z.size e.c) rfl
   go_upto_region 2 with (go_at_call 240;refine (HEn.out _ HB0.out).mono ?_;rintro _ w1 ⟨⟨g,rfl,hbo,hg⟩,hb⟩;have HP1:Hid (PrW w n g e e w1):=hI ⟨hbo,(hb.block _ (qal HE0.out)).trans HE0.out,(hb.block _ (qal HO0.out)).trans HO0.out,(hb.block _ (qal HX0.out)).trans HX0.out,qaa HB0.out hb,Nat.lt_of_lt_of_le (qal HX0.out) hg,HWN.out⟩;clear hbo hb hg c0 c1 c2 c3 c4 c5 c6 c7 c8 c9)
   clear HE0 HO0 HX0 HB0
   have c0:=qay HP1.out.pe 0 (v:=.int .i64 e.id) rfl
   have c1:=qay HP1.out.pe 1 (v:=.int .i64 e.ph) rfl
   have c2:=qay HP1.out.pe 2 (v:=.int .i64 e.qu) rfl
   have c3:=qay HP1.out.pe 3 (v:=.int .i64 e.t) rfl
   have c4:=qay HP1.out.pe 4 (v:=.int .i64 e.bal) rfl
   have c5:=qay HP1.out.pe 5 (v:=.int .i64 e.abal) rfl
   have c6:=qay HP1.out.pe 6 (v:=.int .i64 e.seen) rfl
   have c7:=qay HP1.out.pe 7 (v:=.int .i64 e.age) rfl
   have c8:=qay HP1.out.pe 8 (v:=.string e.pay) rfl
   have c9:=qay HP1.out.pe 9 (v:=.slice e.A e.z.size e.c) rfl
   go_upto_region 4 with (go_at_call 195;refine (HNd.out _ HP1.out.b).mono ?_;rintro _ w3 ⟨rfl,hb⟩;have HP3:=hI (HP1.out.below hb);clear hb c0 c1 c2 c3 c4 c5 c6 c7 c8 c9)
   clear HP1 HNd HEn
   go_upto_region 5 with (first | (go_at_call 243;refine (HVo.out _).mono ?_;rintro _ _ ⟨rfl,rfl⟩) | (go_at_call 242;refine (qfd g e e 0 2 true _ HP3.out.bo).mono ?_;rintro _ w4 ⟨rfl,h1,h2⟩;have HP4:Hid (PrW w n g e e w4):=hI (HP3.out.step h1 h2);clear h1 h2))
   go_upto_region 6 with (go_at_call 245;refine (qnj g e e 0 _ HP4.out.bo).mono ?_;rintro _ w5 ⟨rfl,h1,h2⟩;have HP5:Hid (PrW w n g e e w5):=hI (HP4.out.step (by rw [HOp.out] at h1;exact h1) h2);clear h1 h2;have c4:=qay HP5.out.pe 4 (v:=.int .i64 e.bal) rfl)
   go_upto_region 7 with (go_at_call 242;refine (qfd g e e 0 45 true _ HP5.out.bo).mono ?_;rintro _ w6 ⟨rfl,h1,h2⟩;have HP6:Hid (PrW w n g e e w6):=hI (HP5.out.step h1 h2);clear h1 h2 c4;have c4:=qay HP6.out.pe 4 (v:=.int .i64 e.bal) rfl)
   go_upto_region 9 with (go_at_call 246;refine (qso g e e 0 3 _ HP6.out.bo).mono ?_;rintro _ w8 ⟨rfl,h1,h2⟩;have HP8:Hid (PrW w n g e (qkm e 3) w8):=hI (HP6.out.step (by rw [HNx.out] at h1;exact h1) h2);clear h1 h2 c4)
   obtain ⟨b1,hb1⟩:∃ b,b=(qkm e 3):=⟨_,rfl⟩
   rw [←hb1] at HP8
   have HB1:=hI hb1
   clear hb1
   go_upto_region 11 with fail
   have HP10:Hid (PrW w n g e { b1 with t:=b1.t } w8):=HP8
   obtain ⟨w10,hw10⟩:∃ W,W=w8:=⟨_,rfl⟩
   rw [←hw10] at HP10 ⊢
   clear hw10
   have c14:=HP10.out.bo.at_ 14 (v:=.int .i64 b1.bal) rfl
   have f14:=HP10.out.bo.froz 14
   go_upto_region 12 with fail
   obtain ⟨b2,hb2⟩:∃ b:EN,b={ b1 with t:=b1.t,bal:=ballot }:=⟨_,rfl⟩
   have HP11:Hid (PrW w n g e b2 (w10.setCell ⟨g,14,none⟩ (.int .i64 ballot))):=hI (HP10.out.set 14 _ (by rw [hb2];rfl))
   have HB2:=hI hb2
   clear c14 f14 hb2
   generalize w10.setCell ⟨g,14,none⟩ (.int .i64 ballot)=w11 at HP11 ⊢
   have d0:=HP11.out.bo.at_ 10 (v:=.int .i64 b2.id) rfl
   have d1:=HP11.out.bo.at_ 11 (v:=.int .i64 b2.ph) rfl
   have d2:=HP11.out.bo.at_ 12 (v:=.int .i64 b2.qu) rfl
   have d3:=HP11.out.bo.at_ 13 (v:=.int .i64 b2.t) rfl
   have d4:=HP11.out.bo.at_ 14 (v:=.int .i64 b2.bal) rfl
   have d5:=HP11.out.bo.at_ 15 (v:=.int .i64 b2.abal) rfl
   have d6:=HP11.out.bo.at_ 16 (v:=.int .i64 b2.seen) rfl
   have d7:=HP11.out.bo.at_ 17 (v:=.int .i64 b2.age) rfl
   have d8:=HP11.out.bo.at_ 18 (v:=.string b2.pay) rfl
   have d9:=HP11.out.bo.at_ 19 (v:=.slice b2.A b2.z.size b2.c) rfl
   have HCl:=hI (qnf b2 w11)
   simp only [encE,clrE] at HCl
   go_wp2_with (go_at_call 247;refine HCl.out.mono ?_;rintro _ w12 ⟨rfl,hb⟩;have HP12:=hI (HP11.out.below hb);clear hb d0 d1 d2 d3 d4 d5 d6 d7 d8 d9;have d0:=HP12.out.bo.at_ 10 (v:=.int .i64 b2.id) rfl;have d1:=HP12.out.bo.at_ 11 (v:=.int .i64 b2.ph) rfl;have d2:=HP12.out.bo.at_ 12 (v:=.int .i64 b2.qu) rfl;have d3:=HP12.out.bo.at_ 13 (v:=.int .i64 b2.t) rfl;have d4:=HP12.out.bo.at_ 14 (v:=.int .i64 b2.bal) rfl;have d5:=HP12.out.bo.at_ 15 (v:=.int .i64 b2.abal) rfl;have d6:=HP12.out.bo.at_ 16 (v:=.int .i64 b2.seen) rfl;have d7:=HP12.out.bo.at_ 17 (v:=.int .i64 b2.age) rfl;have d8:=HP12.out.bo.at_ 18 (v:=.string b2.pay) rfl;have d9:=HP12.out.bo.at_ 19 (v:=.slice b2.A b2.z.size b2.c) rfl;have f0:=HP12.out.bo.froz 10;have f1:=HP12.out.bo.froz 11;have f2:=HP12.out.bo.froz 12;have f3:=HP12.out.bo.froz 13;have f4:=HP12.out.bo.froz 14;have f5:=HP12.out.bo.froz 15;have f6:=HP12.out.bo.froz 16;have f7:=HP12.out.bo.froz 17;have f8:=HP12.out.bo.froz 18;have f9:=HP12.out.bo.froz 19)
   obtain ⟨w13,hw13⟩:∃ W,W=setL w12 g (encE (clrE b2)) 10:=⟨_,rfl⟩
   have HP13:Hid (PrW w n g e (clrE b2) w13):=by
    show PrW _ _ _ _ _ _
    rw [hw13]
    exact HP12.out.step (by show _=_;rw [←qui e b2 (clrE b2)];exact qgk _ _ _ _ HP12.out.bo) (butL _ _ _ _ (ButG.refl g w12))
   simp only [encE,clrE,setL,Nat.reduceAdd,Array.size_empty] at hw13
   try rw [←hw13]
   clear hw13 d0 d1 d2 d3 d4 d5 d6 d7 d8 d9 f0 f1 f2 f3 f4 f5 f6 f7 f8 f9 HCl HP12 HP11 HP10 HP8
   refine leaves_cons (f:=241) (args:=#[.pointer (some ⟨g,0,none⟩),.pointer (some ⟨n + 1,0,none⟩),.pointer (some ⟨n + 1 + 1,0,none⟩)]) (by simp) (by simp [go_sem]) ?_
   have hng:=HP13.out.ng
   refine (quo g (n + 1) (n + 1 + 1) e (clrE b2) 0 _ _ .returning w13 HP13.out.bo HP13.out.po HP13.out.px (by omega) (by omega) (by omega)).mono ?_
   rintro r u' w14 ⟨rfl,rfl,hp,hq,hbp⟩
   rw [if_pos rfl] at hp
   refine ⟨_,qhm rfl rfl rfl hp hq rfl,?_,?_⟩
   ·rw [HPB.out,HB2.out,HB1.out];rfl
   ·exact HP13.out.b.trans ⟨hbp.os,hbp.tape,hbp.output,hbp.size,fun k hk=>hbp.block k (by have:=HP13.out.wn;omega) (by have:=HP13.out.wn;omega)⟩
  ·have HPB:Hid (prB e ballot t=clrE { e with t:=e.t,bal:=ballot }):=by show _=_;unfold prB;rw [if_neg hb0,if_neg hn]
   have hb0':(e.bal == 0)=false:=by simpa using hb0
   simp only [encE] at HEn HNd ⊢
   obtain ⟨pb,hpb⟩:∃ p,prB e ballot t=p:=⟨_,rfl⟩
   rw [hpb] at HPB ⊢
   clear hr hz hc hv ht ho hn hb hb0 hpb hnf
   go_enter_defers Tryz.func197,Tryz.ntmps197
   go_upto_region 1 with fail
   have HE0:Hid ((((w.alloc (.cells #[.int .i64 e.id,.int .i64 e.ph,.int .i64 e.qu,.int .i64 e.t,.int .i64 e.bal,.int .i64 e.abal,.int .i64 e.seen,.int .i64 e.age,.string e.pay,.slice e.A e.z.size e.c] 58)).alloc (.cells zE 58)).alloc (.cells #[.int .i64 0] 48)).heap[w.heap.size]?=some (.cells (encE e).toArray 58 (0,0))):=(BoxG.t1 w _ _ _ _ _ _).row
   have HO0:Hid ((((w.alloc (.cells #[.int .i64 e.id,.int .i64 e.ph,.int .i64 e.qu,.int .i64 e.t,.int .i64 e.bal,.int .i64 e.abal,.int .i64 e.seen,.int .i64 e.age,.string e.pay,.slice e.A e.z.size e.c] 58)).alloc (.cells zE 58)).alloc (.cells #[.int .i64 0] 48)).heap[w.heap.size + 1]?=some (.cells zE 58 (0,0))):=(BoxG.t2 w _ _ _ _ _ _).row
   have HX0:Hid ((((w.alloc (.cells #[.int .i64 e.id,.int .i64 e.ph,.int .i64 e.qu,.int .i64 e.t,.int .i64 e.bal,.int .i64 e.abal,.int .i64 e.seen,.int .i64 e.age,.string e.pay,.slice e.A e.z.size e.c] 58)).alloc (.cells zE 58)).alloc (.cells #[.int .i64 0] 48)).heap[w.heap.size + 1 + 1]?=some (.cells #[.int .i64 0] 48 (0,0))):=(BoxG.t3 w _ _ _ _ _ _).row
   have HB0:Hid (Below w.heap.size w (((w.alloc (.cells #[.int .i64 e.id,.int .i64 e.ph,.int .i64 e.qu,.int .i64 e.t,.int .i64 e.bal,.int .i64 e.abal,.int .i64 e.seen,.int .i64 e.age,.string e.pay,.slice e.A e.z.size e.c] 58)).alloc (.cells zE 58)).alloc (.cells #[.int .i64 0] 48))):=(BoxG.t1 w _ _ _ _ _ _).b
   simp only [zE] at HE0 HO0 HX0 HB0
   obtain ⟨n,hn⟩:∃ n,n=w.heap.size:=⟨_,rfl⟩
   have HWN:Hid (w.heap.size≤n):=by show _≤_;omega
   generalize (((w.alloc (.cells #[.int .i64 e.id,.int .i64 e.ph,.int .i64 e.qu,.int .i64 e.t,.int .i64 e.bal,.int .i64 e.abal,.int .i64 e.seen,.int .i64 e.age,.string e.pay,.slice e.A e.z.size e.c] 58)).alloc (.cells #[.int .i64 0,.int .i64 0,.int .i64 0,.int .i64 0,.int .i64 0,.int .i64 0,.int .i64 0,.int .i64 0,.string ⟨#[]⟩,.slice none 0 0] 58)).alloc (.cells #[.int .i64 0] 48))=w0 at HE0 HO0 HX0 HB0 ⊢
   rw [←hn] at HE0 HO0 HX0 ⊢
   clear hn
   have c0:=qay HE0.out 0 (v:=.int .i64 e.id) rfl
   have c1:=qay HE0.out 1 (v:=.int .i64 e.ph) rfl
   have c2:=qay HE0.out 2 (v:=.int .i64 e.qu) rfl
   have c3:=qay HE0.out 3 (v:=.int .i64 e.t) rfl
   have c4:=qay HE0.out 4 (v:=.int .i64 e.bal) rfl
   have c5:=qay HE0.out 5 (v:=.int .i64 e.abal) rfl
   have c6:=qay HE0.out 6 (v:=.int .i64 e.seen) rfl
   have c7:=qay HE0.out 7 (v:=.int .i64 e.age) rfl
   have c8:=qay HE0.out 8 (v:=.string e.pay) rfl
   have c9:=qay HE0.out 9 (v:=.slice e.A e.z.size e.c) rfl
   go_upto_region 2 with (go_at_call 240;refine (HEn.out _ HB0.out).mono ?_;rintro _ w1 ⟨⟨g,rfl,hbo,hg⟩,hb⟩;have HP1:Hid (PrW w n g e e w1):=hI ⟨hbo,(hb.block _ (qal HE0.out)).trans HE0.out,(hb.block _ (qal HO0.out)).trans HO0.out,(hb.block _ (qal HX0.out)).trans HX0.out,qaa HB0.out hb,Nat.lt_of_lt_of_le (qal HX0.out) hg,HWN.out⟩;clear hbo hb hg c0 c1 c2 c3 c4 c5 c6 c7 c8 c9)
   clear HE0 HO0 HX0 HB0
   have c0:=qay HP1.out.pe 0 (v:=.int .i64 e.id) rfl
   have c1:=qay HP1.out.pe 1 (v:=.int .i64 e.ph) rfl
   have c2:=qay HP1.out.pe 2 (v:=.int .i64 e.qu) rfl
   have c3:=qay HP1.out.pe 3 (v:=.int .i64 e.t) rfl
   have c4:=qay HP1.out.pe 4 (v:=.int .i64 e.bal) rfl
   have c5:=qay HP1.out.pe 5 (v:=.int .i64 e.abal) rfl
   have c6:=qay HP1.out.pe 6 (v:=.int .i64 e.seen) rfl
   have c7:=qay HP1.out.pe 7 (v:=.int .i64 e.age) rfl
   have c8:=qay HP1.out.pe 8 (v:=.string e.pay) rfl
   have c9:=qay HP1.out.pe 9 (v:=.slice e.A e.z.size e.c) rfl
   go_upto_region 4 with (go_at_call 195;refine (HNd.out _ HP1.out.b).mono ?_;rintro _ w3 ⟨rfl,hb⟩;have HP3:=hI (HP1.out.below hb);clear hb c0 c1 c2 c3 c4 c5 c6 c7 c8 c9)
   clear HP1 HNd HEn
   go_upto_region 5 with (first | (go_at_call 243;refine (HVo.out _).mono ?_;rintro _ _ ⟨rfl,rfl⟩) | (go_at_call 242;refine (qfd g e e 0 2 true _ HP3.out.bo).mono ?_;rintro _ w4 ⟨rfl,h1,h2⟩;have HP4:Hid (PrW w n g e e w4):=hI (HP3.out.step h1 h2);clear h1 h2))
   go_upto_region 6 with (go_at_call 245;refine (qnj g e e 0 _ HP4.out.bo).mono ?_;rintro _ w5 ⟨rfl,h1,h2⟩;have HP5:Hid (PrW w n g e e w5):=hI (HP4.out.step (by rw [HOp.out] at h1;exact h1) h2);clear h1 h2;have c4:=qay HP5.out.pe 4 (v:=.int .i64 e.bal) rfl)
   go_upto_region 7 with (go_at_call 242;refine (qfd g e e 0 45 true _ HP5.out.bo).mono ?_;rintro _ w6 ⟨rfl,h1,h2⟩;have HP6:Hid (PrW w n g e e w6):=hI (HP5.out.step h1 h2);clear h1 h2 c4;have c4:=qay HP6.out.pe 4 (v:=.int .i64 e.bal) rfl)
   go_upto_region 9 with fail
   have HP8:Hid (PrW w n g e e w6):=HP6
   clear c4
   obtain ⟨b1,hb1⟩:∃ b,b=e:=⟨_,rfl⟩
   have HP8:Hid (PrW w n g e b1 w6):=by show PrW _ _ _ _ _ _;rw [hb1];exact HP8.out
   have HB1:=hI hb1
   clear hb1
   go_upto_region 11 with fail
   have HP10:Hid (PrW w n g e { b1 with t:=b1.t } w6):=HP8
   obtain ⟨w10,hw10⟩:∃ W,W=w6:=⟨_,rfl⟩
   rw [←hw10] at HP10 ⊢
   clear hw10
   have c14:=HP10.out.bo.at_ 14 (v:=.int .i64 b1.bal) rfl
   have f14:=HP10.out.bo.froz 14
   go_upto_region 12 with fail
   obtain ⟨b2,hb2⟩:∃ b:EN,b={ b1 with t:=b1.t,bal:=ballot }:=⟨_,rfl⟩
   have HP11:Hid (PrW w n g e b2 (w10.setCell ⟨g,14,none⟩ (.int .i64 ballot))):=hI (HP10.out.set 14 _ (by rw [hb2];rfl))
   have HB2:=hI hb2
   clear c14 f14 hb2
   generalize w10.setCell ⟨g,14,none⟩ (.int .i64 ballot)=w11 at HP11 ⊢
   have d0:=HP11.out.bo.at_ 10 (v:=.int .i64 b2.id) rfl
   have d1:=HP11.out.bo.at_ 11 (v:=.int .i64 b2.ph) rfl
   have d2:=HP11.out.bo.at_ 12 (v:=.int .i64 b2.qu) rfl
   have d3:=HP11.out.bo.at_ 13 (v:=.int .i64 b2.t) rfl
   have d4:=HP11.out.bo.at_ 14 (v:=.int .i64 b2.bal) rfl
   have d5:=HP11.out.bo.at_ 15 (v:=.int .i64 b2.abal) rfl
   have d6:=HP11.out.bo.at_ 16 (v:=.int .i64 b2.seen) rfl
   have d7:=HP11.out.bo.at_ 17 (v:=.int .i64 b2.age) rfl
   have d8:=HP11.out.bo.at_ 18 (v:=.string b2.pay) rfl
   have d9:=HP11.out.bo.at_ 19 (v:=.slice b2.A b2.z.size b2.c) rfl
   have HCl:=hI (qnf b2 w11)
   simp only [encE,clrE] at HCl
   go_wp2_with (go_at_call 247;refine HCl.out.mono ?_;rintro _ w12 ⟨rfl,hb⟩;have HP12:=hI (HP11.out.below hb);clear hb d0 d1 d2 d3 d4 d5 d6 d7 d8 d9;have d0:=HP12.out.bo.at_ 10 (v:=.int .i64 b2.id) rfl;have d1:=HP12.out.bo.at_ 11 (v:=.int .i64 b2.ph) rfl;have d2:=HP12.out.bo.at_ 12 (v:=.int .i64 b2.qu) rfl;have d3:=HP12.out.bo.at_ 13 (v:=.int .i64 b2.t) rfl;have d4:=HP12.out.bo.at_ 14 (v:=.int .i64 b2.bal) rfl;have d5:=HP12.out.bo.at_ 15 (v:=.int .i64 b2.abal) rfl;have d6:=HP12.out.bo.at_ 16 (v:=.int .i64 b2.seen) rfl;have d7:=HP12.out.bo.at_ 17 (v:=.int .i64 b2.age) rfl;have d8:=HP12.out.bo.at_ 18 (v:=.string b2.pay) rfl;have d9:=HP12.out.bo.at_ 19 (v:=.slice b2.A b2.z.size b2.c) rfl;have f0:=HP12.out.bo.froz 10;have f1:=HP12.out.bo.froz 11;have f2:=HP12.out.bo.froz 12;have f3:=HP12.out.bo.froz 13;have f4:=HP12.out.bo.froz 14;have f5:=HP12.out.bo.froz 15;have f6:=HP12.out.bo.froz 16;have f7:=HP12.out.bo.froz 17;have f8:=HP12.out.bo.froz 18;have f9:=HP12.out.bo.froz 19)
   obtain ⟨w13,hw13⟩:∃ W,W=setL w12 g (encE (clrE b2)) 10:=⟨_,rfl⟩
   have HP13:Hid (PrW w n g e (clrE b2) w13):=by
    show PrW _ _ _ _ _ _
    rw [hw13]
    exact HP12.out.step (by show _=_;rw [←qui e b2 (clrE b2)];exact qgk _ _ _ _ HP12.out.bo) (butL _ _ _ _ (ButG.refl g w12))
   simp only [encE,clrE,setL,Nat.reduceAdd,Array.size_empty] at hw13
   try rw [←hw13]
   clear hw13 d0 d1 d2 d3 d4 d5 d6 d7 d8 d9 f0 f1 f2 f3 f4 f5 f6 f7 f8 f9 HCl HP12 HP11 HP10 HP8
   refine leaves_cons (f:=241) (args:=#[.pointer (some ⟨g,0,none⟩),.pointer (some ⟨n + 1,0,none⟩),.pointer (some ⟨n + 1 + 1,0,none⟩)]) (by simp) (by simp [go_sem]) ?_
   have hng:=HP13.out.ng
   refine (quo g (n + 1) (n + 1 + 1) e (clrE b2) 0 _ _ .returning w13 HP13.out.bo HP13.out.po HP13.out.px (by omega) (by omega) (by omega)).mono ?_
   rintro r u' w14 ⟨rfl,rfl,hp,hq,hbp⟩
   rw [if_pos rfl] at hp
   refine ⟨_,qhm rfl rfl rfl hp hq rfl,?_,?_⟩
   ·rw [HPB.out,HB2.out,HB1.out];rfl
   ·exact HP13.out.b.trans ⟨hbp.os,hbp.tape,hbp.output,hbp.size,fun k hk=>hbp.block k (by have:=HP13.out.wn;omega) (by have:=HP13.out.wn;omega)⟩
end Go.Proofs.YtlkmagmdhopcjaaGreat
namespace Go.Proofs.YtlkmagmdhopcjaaGreat
open Go.RowKit Go.Sort Go.Lib
set_option maxRecDepth 100000
set_option maxHeartbeats 2000000 in
theorem CloneKn (ad:Addr) (c:Nat) (d:Array KE) (w:World) (h:RdK qaz 3 w.heap.size w (some ad) d) (hd:d.size≤1000000) :
 Calls Tryz.prog 33 #[.slice (some ad) d.size c] w fun e w'=>∃ v,e=.returned v∧w'.ownsRow w.heap.size 66 3 v d.size (flatK qaz 3 d).toList∧Below w.heap.size w w':=by
 obtain ⟨i0,hi0,hz0,hz1,hz2⟩:=info_parts qwd
 have HR:=hI h
 clear h
 have q33:∀ (w:World) (a:Option Addr) (n c n' c':Nat),(binOp .eql 24 (.slice a n c) (.slice none n' c')).run Tryz.prog w=.ok (.bool a.isNone) w:=fun w a n c n' c'=>Lib.run_eql_slice_nil w _ _ a n c n' c' Tryz.underlying24
 go_enter Tryz.func33,Tryz.ntmps33
 go_wp2_with (at_builtin;refine qfg encKE_1 qmp (by decide) rfl (.tmp 5) (.tmp 6) 24 rfl w.heap.size 66 i0 (.agg #[.int .i64 0,.slice none 0 0,.slice none 0 0]) 56 Tryz.underlying24 hi0 hz0 hz1 hz2 rfl _ #[] rfl (qcc w 66 qaz 3) w.heap.size (some ad) c d rfl (HR.out.alloc (Nat.le_refl _) _) (fun h=>by cases h) (by simp;omega) (by decide) (by simp) ?_;intro v1 w1 hown1 hg1 _)
 go_ret
 have hb1:Below w.heap.size w w1:=(bel1 w _).grown hg1 (by simp) (fun k hk=>((qcc w 66 qaz 3).lt k hk).1)
 exact ⟨v1,rfl,by simpa using hown1,hb1⟩
attribute [local go_sem ↓] qak qai
attribute [local go_sem] qao qaj qah qaq qbd
theorem qqh {w:World} {B s n:Nat} {e:TypeId} {v:Value} {xs:List Value} (h:w.ownsRow B e s v n xs) (hn:0 < n):∃ g c,v=.slice (some ⟨g,0,none⟩) n c∧B≤g∧g < w.heap.size:=by
 obtain ⟨_,⟨_,h0⟩ | ⟨g,c,_,e,hB,hh,_⟩⟩:=h
 ·omega
 ·exact ⟨g,c,e,hB,(Array.getElem?_eq_some_iff.1 hh).1⟩
end Go.Proofs.YtlkmagmdhopcjaaGreat
namespace Go.Proofs.YtlkmagmdhopcjaaGreat
open Go.RowKit Go.Sort Go.Lib
set_option maxRecDepth 100000
theorem qhn (r n:Int) (w:World):Calls Tryz.prog 78 #[.int .i64 r,.int .i64 n] w fun e w'=>e=.returned (.bool (decide (1≤r∧r≤n)))∧w=w':=by
 by_cases h1:1≤r <;> by_cases h2:r≤n
 all_goals
  go_enter Tryz.func78,Tryz.ntmps78
  go_wp2
  go_ret
  exact ⟨qac (by simp [h1,h2]),rfl⟩
def qyv (m:Array (RW Int)) (n p:Nat) (x:Array Int):Array Int:=((List.range (n * n)).map fun t=>if p * n≤t∧t < p * n + n then x[t - p * n]! else (catM m m.size).toArray[t]!).toArray
theorem qwh (m:Array (RW Int)) (n p:Nat) (x:Array Int) {t:Nat} (h:t < n * n):(qyv m n p x)[t]! = if p * n≤t∧t < p * n + n then x[t - p * n]! else (catM m m.size).toArray[t]!:=by
 rw [getElem!_pos _ t (by simpa [qyv] using h)]
 simp [qyv]
theorem tellD_row (m:Array (RW Int)) {n p:Nat} {x:Array Int} (h:∀ i,i < m.size→m[i]!.z.size=n) (hm:m.size=n) (hp:p < n) (hx:x.size=n) {i:Nat} (hi:i < n):cutR (qyv m n p x) n i=if i=p then x else m[i]!.z:=by
 have hs:(if i=p then x else m[i]!.z).size=n:=by
  split
  ·exact hx
  ·exact h i (by omega)
 apply Array.ext (by rw [qfl,hs])
 intro j h1 h2
 rw [qfl] at h1
 have e:=cutR_at (qyv m n p x) n i h1
 rw [getElem!_pos _ j (by rw [qfl];exact h1)] at e
 rw [e]
 have hle:(i + 1) * n≤n * n:=Nat.mul_le_mul_right n hi
 rw [Nat.succ_mul] at hle
 rw [qwh _ _ _ _ (by omega)]
 rw [←getElem!_pos _ j h2]
 by_cases hip:i=p
 ·subst hip
  rw [if_pos (by omega),if_pos rfl,Nat.add_sub_cancel_left]
 ·have hq:¬ (p * n≤i * n + j∧i * n + j < p * n + n):=by
   rcases Nat.lt_or_ge i p with hl | hl
   ·have:(i + 1) * n≤p * n:=Nat.mul_le_mul_right n hl
    rw [Nat.succ_mul] at this
    omega
   ·have:(p + 1) * n≤i * n:=Nat.mul_le_mul_right n (by omega)
    rw [Nat.succ_mul] at this
    omega
  rw [if_neg hq,if_neg hip]
  have e2:=catM_at m h m.size (Nat.le_refl _) i j (by omega) h1
  rw [getElem!_def]
  simp only [List.getElem?_toArray,e2]
theorem lay_get {L xs:List Value} {off:Nat} (h:off + xs.length≤L.length) (t:Nat):(qhb L off xs)[t]?=if off≤t∧t < off + xs.length then xs[t - off]? else L[t]?:=by
 unfold qhb
 have hl:(L.take off).length=off:=by rw [List.length_take];omega
 rcases Nat.lt_or_ge t off with h1 | h1
 ·rw [List.getElem?_append_left (by omega),if_neg (by omega),List.getElem?_take,if_pos h1]
 ·rw [List.getElem?_append_right (by omega),hl]
  by_cases h2:t < off + xs.length
  ·rw [if_pos ⟨h1,h2⟩,List.getElem?_append_left (by omega)]
  ·rw [if_neg (by omega),List.getElem?_append_right (by omega),List.getElem?_drop]
   congr 1
   omega
theorem qyw {w w':World} {b B s n:Nat} {e:TypeId} {v:Value} {xs:List Value} (h:w.ownsRow B e s v n xs) (hb:b < B) (ho:∀ j,j≠b→w'.heap[j]?=w.heap[j]?):w'.ownsRow B e s v n xs:=by
 obtain ⟨h0,h1 | ⟨g,cap,cur,hv,hB,hh,hr⟩⟩:=h
 ·exact ⟨h0,Or.inl h1⟩
 ·exact ⟨h0,Or.inr ⟨g,cap,cur,hv,hB,(ho g (by omega)).trans hh,hr⟩⟩
def qyx (m:Array (RW Int)) (p:Nat) (x:Array Int) (y:Array (RW Int)):Prop:=y.size=m.size∧∀ i,i < m.size→y[i]!.z=if i=p then x else m[i]!.z
set_option maxHeartbeats 8000000 in
theorem qoo (A:Option Addr) (c n p:Nat) (m:Array (RW Int)) (A2:Option Addr) (c2:Nat) (d2:Array Int) (w:World) (h:RdMM w ⟨A,c,m⟩) (hm:qfk m n=true) (hp:p < n) (h2:RdI_R w.heap.size w A2 d2) (hd:qas d2 n=0) :
 Calls Tryz.prog 31 #[.slice A m.size c,.int .i64 n,.int .i64 ((p:Int) + 1),.slice A2 d2.size c2] w fun e w'=>(∃ y:RW (RW Int),e=.returned (.tuple #[y.v,.int .i64 0])∧OwnMM w.heap.size w' y∧qyx m p (qda m[p]!.z d2) y.z)∧Below w.heap.size w w':=by
 obtain ⟨hn9,hmn,hrows⟩:=qbv.1 hm
 have hms:m.size=n:=by omega
 have hz:∀ i,i < m.size→m[i]!.z.size=n:=fun i hi=>by have:=(qat.1 (hrows i hi)).2.1;omega
 have hd2:d2.size=n:=by have:=(qat.1 hd).2.1;omega
 have HCK:Hid (Calls Tryz.prog 77 #[.slice A m.size c,.int .i64 n] w fun e w'=>e=.returned (.int .i64 0)∧Below w.heap.size w w'):=by
  have:=qgq A c m n w h.1.rd h.2 (by omega) (fun i hi=>by rw [hz i hi];omega)
  have e0:qfb m n=0:=by unfold qfb;rw [if_pos hm]
  rwa [e0] at this
 have HCM:Hid (∀ W,Below w.heap.size w W→Calls Tryz.prog 79 #[.slice A2 d2.size c2,.int .i64 n] W fun e w'=>e=.returned (.int .i64 0)∧Below W.heap.size W w'):=fun W hb=>by
  have:=qfi A2 c2 d2 n _ W (h2.below hb) (by omega)
  rwa [hd] at this
 have HAM:Hid (∀ W,Calls Tryz.prog 78 #[.int .i64 ((p:Int) + 1),.int .i64 n] W fun e w'=>e=.returned (.bool true)∧W=w'):=fun W=>by
  have:=qhn ((p:Int) + 1) n W
  rwa [decide_eq_true (by omega:1≤(p:Int) + 1∧(p:Int) + 1≤(n:Int))] at this
 have HCP:Hid (∀ W,Below w.heap.size w W→Calls Tryz.prog 80 #[.slice A m.size c,.int .i64 n] W fun e w'=>∃ (v:Value) (b:Nat),e=.returned v∧W.heap.size≤b∧(∃ (cap:Nat) (cur:Array Value),w'.heap[b]?=some (.cells cur 3 (0,0))∧n * n≤cap∧cur.size=cap∧cur.toList.take (n * n)=(catM m m.size).map (Value.int .i64))∧w'.ownsRow (b + 1) 26 1 v n ((List.range n).map fun i=>.slice (some ⟨b,0 + i * n,none⟩) n n)∧Below W.heap.size W w') :=
  fun W hb=>qyt A c n m W (h.below hb) hz (by omega) (by omega) hms
 have HMG:Hid (∀ W,Below w.heap.size w W→Calls Tryz.prog 81 #[.slice m[p]!.A n m[p]!.c,.slice A2 d2.size c2] W fun e w'=>∃ (b o c:Nat),e=.returned (.slice (some ⟨b,o,none⟩) n c)∧(∀ j v,((qda m[p]!.z d2).toList.map (Value.int .i64))[j]?=some v→w'.cell? ((⟨b,o,none⟩:Addr).add j)=some v)∧Below W.heap.size W w'):=fun W hb=>by
  have e1:(qda m[p]!.z d2).size=n:=by rw [qcd,hz p (by omega),hd2];omega
  have:=Merge_any m[p]!.A A2 m[p]!.c c2 m[p]!.z d2 W (((h.2 p (show p < m.size by omega)).below hb).rd) ((h2.below hb).mono hb.size) (by rw [hz p (by omega)];omega) (by omega)
  rw [hz p (by omega),e1] at this
  refine this.mono fun e w' ⟨A3,c3,he,hr,hbb⟩=>?_
  obtain ⟨b,o,hA,_,f⟩:=hr (by omega)
  subst hA
  refine ⟨b,o,c3,he,fun j v hj=>?_,hbb⟩
  rw [List.getElem?_map] at hj
  rcases Nat.lt_or_ge j (qda m[p]!.z d2).size with hl | hl
  ·rw [Addr.add_lit,f j hl]
   rw [Array.getElem?_toList,Array.getElem?_eq_getElem hl] at hj
   rw [getElem!_pos _ j hl]
   simpa using hj
  ·rw [Array.getElem?_toList,Array.getElem?_eq_none hl] at hj
   cases hj
 have hsz1:(Tryz.prog.info? 3).map (·.size)=some 1:=by kernel_rfl
 have HJ:Hid (∀ i,i < m.size→m[i]!.z.size=n):=hz
 have hxs:(qda m[p]!.z d2).size=n:=by rw [qcd,hz p (by omega),hd2];omega
 have hcl:(catM m m.size).length=n * n:=(qlf m hz m.size (Nat.le_refl _)).trans (by rw [hms])
 have hle:(p + 1) * n≤n * n:=Nat.mul_le_mul_right n hp
 rw [Nat.succ_mul] at hle
 obtain ⟨bm,om,hA,hbm,fm⟩:=h.1.rd.at_ (i:=p) (show p < m.size by omega)
 have hA':A=some ⟨bm,om,none⟩:=hA
 subst hA'
 have e0:=fm 0 (by omega)
 have hzp:=hz p (by omega)
 simp only [Nat.add_zero,Nat.mul_one,encW,RW.v,List.getElem!_cons_zero,hzp] at e0
 have HE0:Hid (∀ W,Below w.heap.size w W→W.cell? ⟨bm,om + p,none⟩=some (.slice m[p]!.A n m[p]!.c)):=fun W hb=>(hb.cell (p:=⟨bm,om + p,none⟩) hbm).trans e0
 obtain ⟨X,hX⟩:∃ X,qda m[p]!.z d2=X:=⟨_,rfl⟩
 rw [hX] at HMG hxs ⊢
 obtain ⟨XS,hXS⟩:∃ XS,X.toList.map (Value.int .i64)=XS:=⟨_,rfl⟩
 rw [hXS] at HMG
 have hXl:XS.length=n:=by rw [←hXS];simpa using hxs
 have hX1:∀ v ∈ XS,v.oneCell'=true:=by
  intro v hv
  rw [←hXS] at hv
  obtain ⟨_,_,rfl⟩:=List.mem_map.1 hv
  rfl
 have HXS:=hI hXS
 have HXl:=hI hXl
 have HX1:=hI hX1
 have HRow:=hI (fun (i:Nat) (hi:i < n)=>tellD_row m (p:=p) (x:=X) hz hms hp hxs hi)
 have HAt:=hI (fun (t:Nat) (ht:t < n * n)=>qwh m n p X ht)
 have HMS:=hI hms
 have HCL:=hI hcl
 have HXZ:=hI hxs
 have hn0:0 < n:=by omega
 have hn10:n≤9:=by omega
 obtain ⟨u,hu⟩:∃ u,m[p]! = u:=⟨_,rfl⟩
 rw [hu] at HE0 HMG
 obtain ⟨q,hq⟩:∃ q,p * n=q:=⟨_,rfl⟩
 have HQ:=hI hq
 obtain ⟨nn,hnn⟩:∃ nn,n * n=nn:=⟨_,rfl⟩
 rw [hq,hnn] at hle
 have HNN:=hI hnn
 have HLE:=hI hle
 have kz:(p:Int) < (n:Int):=by omega
 have km:(p:Int) < (m.size:Int):=by omega
 generalize catM m m.size=CM at HCP HAt HCL
 clear h hm h2 hd hn9 hmn hrows hz hd2 hA fm e0 hzp hX hXS hXl hX1 hu hq hnn hle hms hcl hxs
 go_enter Tryz.func31,Tryz.ntmps31
 go_wp2_with (first
  | (go_at_call 77;refine HCK.out.mono ?_;rintro _ w1 ⟨rfl,hb1⟩;have HB1:=hI hb1;clear hb1)
  | (go_at_call 78;refine (HAM.out _).mono ?_;rintro _ _ ⟨rfl,rfl⟩)
  | (go_at_call 79;refine (HCM.out _ HB1.out).mono ?_;rintro _ w2 ⟨rfl,hb2⟩;have HB2:=hI (qaa HB1.out hb2);clear hb2)
  | fail)
 refine (HCP.out _ HB2.out).mono ?_
 rintro _ w3 ⟨v,b,rfl,hWb,⟨cap,cur,hcur,hcap,hcs,htk⟩,hown,hb3⟩
 have HB3:=hI (qaa HB2.out hb3)
 have HO3:=hI hown
 obtain ⟨_,⟨rfl,h00⟩ | ⟨g2,cap2,cur2,rfl,hg2,hh2,hnc2,hcm2,hcs2,htk2⟩⟩:=hown
 ·omega
 have hgl2:g2 < w3.heap.size:=(Array.getElem?_eq_some_iff.1 hh2).1
 have hbl:b < w3.heap.size:=by omega
 have a0:w3.cell? ⟨g2,p,none⟩=some (.slice (some ⟨b,q,none⟩) n n):=by
  rw [HO3.out.cellAt p (by omega),List.getElem?_map,List.getElem?_range hp]
  simp [HQ.out]
 have b0:=HE0.out _ HB3.out
 have HWB:Hid (w.heap.size≤b):=hI (Nat.le_trans HB2.out.size hWb)
 obtain ⟨L0,rfl⟩:∃ L:List Value,cur=L.toArray:=⟨cur.toList,by simp⟩
 have HL3:Hid (w3.heap[b]?=some (.cells L0.toArray 3 (0,0))):=hcur
 have HTK:Hid (L0.take nn=CM.map (Value.int .i64)):=by show _=_;rw [←HNN.out];exact htk
 have HLN:Hid (nn≤L0.length):=by show _≤_;rw [←HNN.out];simp at hcs;omega
 have HFI:Hid (q + XS.length≤L0.length):=by show _≤_;rw [HXl.out];exact Nat.le_trans HLE.out HLN.out
 have HMG2:=hI (HMG.out w3.drew HB3.out.drew)
 clear hcur hcs htk hb3 hh2 hcm2 hcs2 htk2 hWb hcap hnc2
 go_wp2
 have hwr:IntKind.i64.wrap (p:Int)=(p:Int):=IntWalk.i64_in _ (by omega)
 go_region_law (first
  | (refine qjw rfl (.tmp 34) (.tmp 41) 26 26 rfl 1 3 Tryz.underlying26 hsz1 b q n n ⟨bg,og,none⟩ n cg (by simp [Act.eval]) (by simp [Act.eval]) L0 3 HL4.out XS n (by simp) (by rw [Nat.mul_one];exact HXl.out) hsrc HFI.out HX1.out w.heap.size w HB4.out HWB.out ?_;intro w5 hg5 hb5 ho5)
  | (go_simp;refine HMG2.out.mono ?_;rintro _ w4 ⟨bg,og,cg,rfl,hsrc,hbm4⟩;have HB4:=hI (qaa HB3.out.drew hbm4);have HL4:Hid (w4.heap[b]?=some (.cells L0.toArray 3 (0,0))):=hI ((hbm4.block b hbl).trans HL3.out);have a0:w4.cell? ⟨g2,p,none⟩=some (.slice (some ⟨b,q,none⟩) n n):=(hbm4.cell (p:=⟨g2,p,none⟩) hgl2).trans a0;have HO4:=hI (qht (w:=w3.drew) HO3.out hbm4);clear hbm4;dsimp only))
 all_goals
  go_wp2
  go_ret2
  have hown5:=qyw HO4.out (Nat.lt_succ_self b) ho5.out
  have hg5':=hg5.out
  have hb5l:b < w5.heap.size:=(Array.getElem?_eq_some_iff.1 hg5').1
  obtain ⟨y,e,hyz,hyr⟩:=cut_own (B0:=w.heap.size) (qyv m n p X) hown5 (by have:=HWB.out;omega) hb5l HWB.out (fun t ht=>by
   rw [Nat.zero_add,cell_of_row _ _ t _ _ (0,0) hg5',List.getElem?_toArray,lay_get HFI.out,HAt.out t ht,HXl.out,HQ.out]
   rw [HNN.out] at ht
   split
   ·rename_i hc
    have hl:t - q < X.size:=by have:=HXZ.out;omega
    have:XS[t - q]?=some (.int .i64 X[t - q]!):=by
     rw [←HXS.out,List.getElem?_map,Array.getElem?_toList,Array.getElem?_eq_getElem hl,getElem!_pos X _ hl]
     rfl
    exact this
   ·rename_i hc
    have h3:L0[t]?=(L0.take nn)[t]?:=by rw [List.getElem?_take,if_pos ht]
    rw [h3,HTK.out,List.getElem?_map]
    have hl:t < CM.length:=by rw [HCL.out,HNN.out];exact ht
    rw [List.getElem?_eq_getElem hl,getElem!_pos _ t (by simpa using hl)]
    simp)
  refine ⟨⟨y,by rw [←e];rfl,hyr,?_⟩,hb5.out⟩
  rw [hyz]
  refine ⟨by rw [qjl,HMS.out],fun i hi=>?_⟩
  rw [HMS.out] at hi
  rw [cutZ_at _ _ _ _ hi]
  exact HRow.out i hi
theorem qyy (A:Option Addr) (n c:Nat) (x:Int) (w:World) :
 Calls Tryz.prog 175 #[.slice A n c,.int .i64 x] w fun e w'=>e=.returned (.func (.func 228) #[] #[.pointer (some ⟨w.heap.size,0,none⟩),.pointer (some ⟨w.heap.size + 1,0,none⟩)])∧w'=(w.alloc (.cells #[.slice A n c] 25)).alloc (.cells #[.int .i64 x] 3):=by
 go_enter Tryz.func175,Tryz.ntmps175
 go_wp2
 go_ret
 exact ⟨rfl,rfl⟩
theorem col1_any (A:Option Addr) (c n k p g1 g2:Nat) (m:Array (RW Int)) (w:World) (h:RdMM w ⟨A,c,m⟩) (hm:∀ i,i < m.size→m[i]!.z.size=n) (hp:p < n) (hn:n≤9) (hk:k < m.size)
 (q1:w.cell? ⟨g1,0,none⟩=some (.slice A m.size c)) (q2:w.cell? ⟨g2,0,none⟩=some (.int .i64 p)) :
 Calls Tryz.prog 228 #[.int .i64 k,.pointer (some ⟨g1,0,none⟩),.pointer (some ⟨g2,0,none⟩)] w fun e w'=>e=.returned (.int .i64 m[k]!.z[p]!)∧Below w.heap.size w w':=by
 obtain ⟨bm,om,hA,hbm,fm⟩:=h.1.rd.at_ (i:=k) hk
 have hA':A=some ⟨bm,om,none⟩:=hA
 subst hA'
 have e0:=fm 0 (by omega)
 have hz:=hm k hk
 obtain ⟨b,o,hB,_,fz⟩:=(h.2 k hk).rd (show 0 < m[k]!.z.size by omega)
 have e1:=fz p (show p < m[k]!.z.size by omega)
 simp only [Nat.add_zero,Nat.mul_one,encW,RW.v,List.getElem!_cons_zero,hz] at e0
 have hB':m[k]!.A=some ⟨b,o,none⟩:=hB
 rw [hB'] at e0
 have kz:(k:Int) < (m.size:Int):=by omega
 have pz:(p:Int) < (n:Int):=by omega
 generalize m[k]!.z[p]! = r at e1 ⊢
 generalize m[k]!.c=mc at e0
 clear fm fz h hm hA hB hB' hz
 go_enter Tryz.func228,Tryz.ntmps228
 go_wp2
 go_quiet (fail)
 go_wp2
 go_ret
 exact ⟨rfl,qbc (Below.refl _ _) _⟩
theorem blk_setT {W:World} {g:Nat} {cs:Array Value} {t:TypeId} (h:W.heap[g]?=some (.cells cs t (0,0))) (k:Nat) (u:Value):(W.setCell ⟨g,k,none⟩ u).heap[g]?=some (.cells (cs.setIfInBounds k u) t (0,0)):=by
 simp [World.setCell,Array.getElem?_modify,h]
theorem qsl (m:Array (RW Int)) (c:Nat):(colM m c).size=m.size:=by simp [colM]
theorem colM_at (m:Array (RW Int)) (c:Nat) {j:Nat} (h:j < m.size):(colM m c)[j]! = m[j]!.z[c]!:=by
 rw [getElem!_pos _ j (by rw [qsl];exact h),getElem!_pos m j h]
 simp [colM]
set_option maxHeartbeats 8000000 in
theorem quk (A:Option Addr) (c n p:Nat) (m:Array (RW Int)) (w:World) (h:RdMM w ⟨A,c,m⟩) (hm:qfk m n=true) (hp:p < n) :
 Calls Tryz.prog 87 #[.slice A m.size c,.int .i64 n,.int .i64 ((p:Int) + 1)] w fun e w'=>e=.returned (.int .i64 (qeg (colM m p)))∧Below w.heap.size w w':=by
 obtain ⟨hn9,hmn,hrows⟩:=qbv.1 hm
 have hms:m.size=n:=by omega
 have hz:∀ i,i < m.size→m[i]!.z.size=n:=fun i hi=>by have:=(qat.1 (hrows i hi)).2.1;omega
 have HCK:Hid (Calls Tryz.prog 77 #[.slice A m.size c,.int .i64 n] w fun e w'=>e=.returned (.int .i64 0)∧Below w.heap.size w w'):=by
  have:=qgq A c m n w h.1.rd h.2 (by omega) (fun i hi=>by rw [hz i hi];omega)
  have e0:qfb m n=0:=by unfold qfb;rw [if_pos hm]
  rwa [e0] at this
 have HAM:Hid (∀ W,Calls Tryz.prog 78 #[.int .i64 ((p:Int) + 1),.int .i64 n] W fun e w'=>e=.returned (.bool true)∧W=w'):=fun W=>by
  have:=qhn ((p:Int) + 1) n W
  rwa [decide_eq_true (by omega:1≤(p:Int) + 1∧(p:Int) + 1≤(n:Int))] at this
 have HCL:Hid (∀ W (k g1 g2:Nat),Below w.heap.size w W→k < m.size→W.cell? ⟨g1,0,none⟩=some (.slice A m.size c)→W.cell? ⟨g2,0,none⟩=some (.int .i64 p)→Calls Tryz.prog 228 #[.int .i64 k,.pointer (some ⟨g1,0,none⟩),.pointer (some ⟨g2,0,none⟩)] W fun e w'=>e=.returned (.int .i64 m[k]!.z[p]!)∧Below W.heap.size W w') :=
  fun W k g1 g2 hb hk q1 q2=>col1_any A c n k p g1 g2 m W (h.below hb) hz hp (by omega) hk q1 q2
 have HCO:Hid (∀ W,Calls Tryz.prog 175 #[.slice A m.size c,.int .i64 p] W fun e w'=>e=.returned (.func (.func 228) #[] #[.pointer (some ⟨W.heap.size,0,none⟩),.pointer (some ⟨W.heap.size + 1,0,none⟩)])∧w'=(W.alloc (.cells #[.slice A m.size c] 25)).alloc (.cells #[.int .i64 p] 3)):=fun W=>qyy A m.size c p W
 have hmk:=fun W=>qmd n (by omega) W
 have HMS:=hI hms
 have hwr:IntKind.i64.wrap (p:Int)=(p:Int):=IntWalk.i64_in _ (by omega)
 have hn10:n≤9:=by omega
 clear h hm hn9 hmn hrows hz hms
 go_enter Tryz.func87,Tryz.ntmps87
 go_wp2_with (first
  | (go_at_call 77;refine HCK.out.mono ?_;rintro _ w1 ⟨rfl,hb1⟩;have HB1:=hI hb1;clear hb1)
  | (go_at_call 78;refine (HAM.out _).mono ?_;rintro _ _ ⟨rfl,rfl⟩)
  | (go_at_call 175;refine (HCO.out _).mono ?_;rintro _ w2 ⟨rfl,hw2⟩;have HBX:Hid (BoxG w1 w1.heap.size #[.slice A m.size c] 25 w2):=hI (by rw [hw2];exact BoxG.fst w1 _ _ _ _);have HBY:Hid (BoxG w1 (w1.heap.size + 1) #[.int .i64 p] 3 w2):=hI (by rw [hw2];exact BoxG.snd w1 _ _ _ _);clear hw2))
 clear hmk
 go_loopw [28] (fun i wr=>∃ k:Nat,i=.int .i64 k∧k≤n∧Hid (wr.heap[w2.heap.size]?=some (.cells (fcs n (fun j=>m[j]!.z[p]!) k) 3 (0,0)))∧Hid (Below w2.heap.size w2 wr)) (fun i _=>n - (intOf i).toNat)
 case atStart=>exact ⟨0,rfl,Nat.zero_le _,hI (by rw [fcs_0 _ (fun j=>m[j]!.z[p]!)];exact heap_alloc_new w2 _),hI (bel1 w2 _)⟩
 case round =>
  obtain ⟨k,rfl,hk,HK,HB⟩:=hrel
  by_cases hlt:k < n
  ·have kz:(k:Int) < (n:Int):=by omega
   have HX1:=hI (HBX.out.next HB.out)
   have HY1:=hI (HBY.out.next HB.out)
   have HF:=hI (HCL.out wr k w1.heap.size (w1.heap.size + 1) (qaa HB1.out HX1.out.b) (by rw [HMS.out];exact hlt) (HX1.out.at_ 0 rfl) (HY1.out.at_ 0 rfl))
   have HN:=hI (fcs_set n (fun j=>m[j]!.z[p]!) k)
   generalize m[k]!.z[p]! = x at HF HN
   go_wp2_with fail
   refine HF.out.mono ?_
   rintro _ w3 ⟨rfl,hb3⟩
   have hgs:w2.heap.size < wr.heap.size:=qdf HK.out
   have HK3:Hid (w3.heap[w2.heap.size]?=some (.cells (fcs n (fun j=>m[j]!.z[p]!) k) 3 (0,0))):=hI ((hb3.block _ hgs).trans HK.out)
   have HB3:=hI (qaa HB.out hb3)
   have cg:w3.cell? ⟨w2.heap.size,k,none⟩=some (.int .i64 0):=by
    rw [cell_of_row w3 _ k _ _ (0,0) HK3.out,qsg,if_pos hlt,if_neg (by omega)]
   have fg:w3.frozen? ⟨w2.heap.size,k,none⟩=false:=by
    have:=HK3.out
    simp [World.frozen?,this]
   clear hb3
   go_wp2
   go_roundw
   case rel =>
    refine ⟨k + 1,by go_num,by omega,hI ?_,hI ?_⟩
    ·rw [←HN.out];exact blk_setT HK3.out k _
    ·exact HB3.out.setCell (p:=⟨w2.heap.size,k,none⟩) (Nat.le_refl _) _
   case measure=>simp [intOf];omega
  ·have hlt':decide ((k:Int) < (n:Int))=false:=decide_eq_false (by omega)
   obtain rfl:k=n:=by omega
   have hcs:=qsl m p
   have HE:Hid (wr.heap[w2.heap.size]?=some (.cells ((colM m p).map qcv) 3 (0,0))):=by
    show _=_
    rw [HK.out,←fcs_all,hcs,HMS.out]
    congr 2
    unfold fcs
    congr 1
    refine List.map_congr_left fun t ht=>?_
    have:=List.mem_range.1 ht
    simp only [colM_at m p (show t < m.size by rw [HMS.out];exact this)]
   have HL:=hI (qrs (some ⟨w2.heap.size,0,none⟩) (colM m p).size (colM m p) _ wr (qsu HE.out) (by have:=HMS.out;omega))
   rw [hcs,HMS.out] at HL
   clear hcs
   go_wp2_with fail
   refine HL.out.mono ?_
   rintro _ _ ⟨rfl,rfl⟩
   go_wp2
   go_ret
   exact ⟨rfl,qaa HB1.out (qaa HBX.out.b HB.out)⟩
theorem cks1_any (x:Int×Int) (f:Int) (g:Nat) (w:World) (hg:g < w.heap.size) (hc:w.cell? ⟨g,0,none⟩=some (.int .i64 f)) :
 Calls Tryz.prog 176 #[.agg (qaf x).toArray,.pointer (some ⟨g,0,none⟩)] w fun e w'=>e=.returned (.bool (decide (x.1≤f)))∧Below w.heap.size w w':=by
 have hc':∀ o,(w.alloc o).cell? ⟨g,0,none⟩=some (.int .i64 f):=fun o=>(World.cell?_alloc_lt w _ _ hg).trans hc
 have HB:Hid (∀ o,Below w.heap.size w (w.alloc o)):=hI (fun o=>bel1 w o)
 simp only [qaf]
 go_enter Tryz.func176,Tryz.ntmps176
 go_wp2
 go_ret
 exact ⟨rfl,HB.out _⟩
set_option maxHeartbeats 2000000 in
theorem qul (A:Option Addr) (c:Nat) (d:Array (Int×Int)) (f:Int) (w:World) (h:RdK qaf 2 w.heap.size w A d) (hs:d.size≤1000000) :
 Calls Tryz.prog 88 #[.slice A d.size c,.int .i64 f] w fun e w'=>(∃ y:RW (Int×Int),e=.returned y.v∧y.z=qsh d f∧RdN qaf 2 w' y∧∀ g off,y.A=some ⟨g,off,none⟩→w.heap.size≤g)∧Below w.heap.size w w':=by
 have HC:=hI (fun W (hb:Below w.heap.size w W)=>qfx A c d W ((h.below hb).mono hb.size) hs)
 clear h
 go_enter Tryz.func88,Tryz.ntmps88
 have HB0:=hI (bel1 w (.cells #[.int .i64 f] 3))
 have HG0:Hid ((w.alloc (.cells #[.int .i64 f] 3)).heap[w.heap.size]?=some (.cells #[.int .i64 f] 3 (0,0))):=heap_alloc_new w _
 go_wp2_with fail
 refine (HC.out _ HB0.out).mono ?_
 rintro _ w1 ⟨v,rfl,hown,hb⟩
 have hg0:w.heap.size < (w.alloc (.cells #[.int .i64 f] 3)).heap.size:=by simp
 have HD:=hI (qpa (fun x=>decide (x.1≤f)) 176 #[.pointer (some ⟨w.heap.size,0,none⟩)] (enters_of Tryz.func176 (by kernel_rfl) rfl) v d _ w1
  (fun W x hW hWs=>cks1_any x f w.heap.size W (Nat.lt_of_lt_of_le hg0 hWs) (by
    rw [cell_of_row W w.heap.size 0 #[.int .i64 f] 3 (0,0) (((hW _ hg0).trans (hb.block _ hg0)).trans HG0.out)];rfl))
  hown hb.size hs)
 have HB1:=hI (qaa HB0.out hb)
 have HBw:=hI hb
 clear hown hb HC
 go_wp2_with fail
 refine HD.out.mono ?_
 rintro _ w2 ⟨A2,c2,rfl,hr,hn,hf,hb2⟩
 have HF:=hI (fun g off e=>Nat.le_trans HB0.out.size (hf g off e))
 have HR:=hI hr
 have HN:=hI hn
 have HB2:=hI (qaa HB0.out (HBw.out.trans hb2))
 clear hr hn hf hb2
 go_wp2
 go_ret
 exact ⟨⟨⟨A2,c2,qsh d f⟩,rfl,rfl,⟨HR.out,HN.out⟩,HF.out⟩,HB2.out⟩
end Go.Proofs.YtlkmagmdhopcjaaGreat
namespace Go.Proofs.YtlkmagmdhopcjaaGreat
open Go.RowKit Go.Sort Go.Lib
def kR (r:RP) (K cK:Nat) (ks:Array KE):RP:={ r with k:=⟨some ⟨K,0,none⟩,cK,ks⟩ }
def FarK (w:World) (x:KE):Prop:=(0 < x.r.z.size→∀ g off,x.r.A=some ⟨g,off,none⟩→g < w.heap.size∨w.heap.size + 2≤g)∧(0 < x.a.z.size→∀ g off,x.a.A=some ⟨g,off,none⟩→g < w.heap.size∨w.heap.size + 2≤g)
theorem FarK.old {w:World} {x:KE} (h:RdKE w x):FarK w x:=by
 refine ⟨fun h0 g off e=>Or.inl ?_,fun h0 g off e=>Or.inl ?_⟩
 ·obtain ⟨b,o,e2,hb,_⟩:=h.r.rd h0
  rw [e] at e2
  injection e2 with e2
  injection e2 with e2
  omega
 ·obtain ⟨b,o,e2,hb,_⟩:=h.a.rd h0
  rw [e] at e2
  injection e2 with e2
  injection e2 with e2
  omega
theorem FarK.new {w:World} {x:KE} {B:Nat} (hB:w.heap.size + 2≤B) (h1:∀ g off,x.r.A=some ⟨g,off,none⟩→B≤g) (h2:∀ g off,x.a.A=some ⟨g,off,none⟩→B≤g):FarK w x :=
 ⟨fun _ g off e=>Or.inr (Nat.le_trans hB (h1 g off e)),fun _ g off e=>Or.inr (Nat.le_trans hB (h2 g off e))⟩
def FarN (w:World) (x:KE):Prop:=(0 < x.r.z.size→∀ g off,x.r.A=some ⟨g,off,none⟩→w.heap.size + 2≤g)∧(0 < x.a.z.size→∀ g off,x.a.A=some ⟨g,off,none⟩→w.heap.size + 2≤g)
theorem FarN.far {w:World} {x:KE} (h:FarN w x):FarK w x:=⟨fun h0 g off e=>Or.inr (h.1 h0 g off e),fun h0 g off e=>Or.inr (h.2 h0 g off e)⟩
theorem FarN.new {w:World} {x:KE} {B:Nat} (hB:w.heap.size + 2≤B) (h1:∀ g off,x.r.A=some ⟨g,off,none⟩→B≤g) (h2:∀ g off,x.a.A=some ⟨g,off,none⟩→B≤g):FarN w x :=
 ⟨fun _ g off e=>Nat.le_trans hB (h1 g off e),fun _ g off e=>Nat.le_trans hB (h2 g off e)⟩
theorem farN_put {w:World} {ks:Array KE} {k:Nat} {y:KE} (h:∀ i,i < k→FarN w ks[i]!) (hk:k < ks.size) (hy:FarN w y):∀ i,i < k + 1→FarN w (ks.setIfInBounds k y)[i]!:=by
 intro i hi
 by_cases hik:i=k
 ·subst hik
  rw [getElem!_set_same ks i y hk]
  exact hy
 ·rw [show (ks.setIfInBounds k y)[i]! = ks[i]! by rw [getElem!_def,getElem!_def,Array.getElem?_setIfInBounds,if_neg (Ne.symm hik)]]
  exact h i (by omega)
theorem RdK.apartN {α:Type} [Inhabited α] {en:α→List Value} {k n:Nat} {W W':World} {A:Option Addr} {d:Array α} (h:RdK en k W.heap.size W A d) (hf:0 < d.size→∀ g off,A=some ⟨g,off,none⟩→n≤g) (ho:∀ j,n≤j→j < W.heap.size→W'.heap[j]?=W.heap[j]?) (hs:W.heap.size≤W'.heap.size):RdK en k W'.heap.size W' A d:=fun h0=>by
 obtain ⟨b,off,e,hlt,hc⟩:=h h0
 exact ⟨b,off,e,Nat.lt_of_lt_of_le hlt hs,fun t ht=>(World.cell?_of_block (w:=W) (a:=⟨b,off + t,none⟩) (ho b (hf h0 b off e) hlt)).trans (hc t ht)⟩
theorem RdKE.apartN {w W W':World} {x:KE} (h:RdKE W x) (hf:FarN w x) (ho:∀ j,w.heap.size + 2≤j→j < W.heap.size→W'.heap[j]?=W.heap[j]?) (hs:W.heap.size≤W'.heap.size):RdKE W' x :=
 ⟨⟨RdK.apartN h.r.rd hf.1 ho hs,h.r.no⟩,⟨RdK.apartN h.a.rd hf.2 ho hs,h.a.no⟩⟩
def SepR (r:RP) (B:Nat) (w1:World) (s:RP):Prop:=∀ W,RdP W r→(∀ j,B≤j→j < w1.heap.size→W.heap[j]?=w1.heap[j]?)→w1.heap.size≤W.heap.size→RdP W s
theorem SepR.rd {r s:RP} {B:Nat} {w1:World} (h:SepR r B w1 s) (hr:RdP w1 r):RdP w1 s:=h w1 hr (fun _ _ _=>rfl) (Nat.le_refl _)
theorem SepR.trans {r s t:RP} {B:Nat} {w1 w2:World} (h:SepR r B w1 s) (g:SepR s w1.heap.size w2 t) (hb:Below w1.heap.size w1 w2) (hB:B≤w1.heap.size):SepR r B w2 t:=fun W hr ho hs =>
 g W (h W hr (fun j h1 h2=>(ho j h1 (Nat.lt_of_lt_of_le h2 hb.size)).trans (hb.block j h2)) (Nat.le_trans hb.size hs)) (fun j h1 h2=>ho j (Nat.le_trans hB h1) h2) hs
theorem SepR.self (r:RP) (B:Nat) (w1:World):SepR r B w1 r:=fun _ hr _ _=>hr
theorem SepR.below {r s:RP} {B:Nat} {w1 w2:World} (h:SepR r B w1 s) (hb:Below w1.heap.size w1 w2):SepR r B w2 s:=fun W hr ho hs =>
 h W hr (fun j h1 h2=>(ho j h1 (Nat.lt_of_lt_of_le h2 hb.size)).trans (hb.block j h2)) (Nat.le_trans hb.size hs)
theorem RdK.apart {α:Type} [Inhabited α] {en:α→List Value} {k n:Nat} {W W':World} {A:Option Addr} {d:Array α} (h:RdK en k W.heap.size W A d) (hf:0 < d.size→∀ g off,A=some ⟨g,off,none⟩→g < n∨n + 2≤g) (ho:∀ j,(j < n∨n + 2≤j)→j < W.heap.size→W'.heap[j]?=W.heap[j]?) (hs:W.heap.size≤W'.heap.size):RdK en k W'.heap.size W' A d:=fun h0=>by
 obtain ⟨b,off,e,hlt,hc⟩:=h h0
 exact ⟨b,off,e,Nat.lt_of_lt_of_le hlt hs,fun t ht=>(World.cell?_of_block (w:=W) (a:=⟨b,off + t,none⟩) (ho b (hf h0 b off e) hlt)).trans (hc t ht)⟩
theorem RdKE.apart {w W W':World} {x:KE} (h:RdKE W x) (hf:FarK w x) (ho:∀ j,(j < w.heap.size∨w.heap.size + 2≤j)→j < W.heap.size→W'.heap[j]?=W.heap[j]?) (hs:W.heap.size≤W'.heap.size):RdKE W' x :=
 ⟨⟨RdK.apart h.r.rd hf.1 ho hs,h.r.no⟩,⟨RdK.apart h.a.rd hf.2 ho hs,h.a.no⟩⟩
structure RefW (w:World) (r:RP) (K cK:Nat) (ks:Array KE) (W:World):Prop where
 x:BoxG w w.heap.size (encP (kR r K cK ks)).toArray 35 W
 z:BoxG w (w.heap.size + 1) qbp 35 W
 own:W.ownsRow (w.heap.size + 2) 66 3 (.slice (some ⟨K,0,none⟩) ks.size cK) ks.size (flatK qaz 3 ks).toList
 kk:∀ i,i < ks.size→RdKE W ks[i]!
 far:∀ i,i < ks.size→FarK w ks[i]!
section
variable {w W W':World} {r:RP} {K cK:Nat} {ks:Array KE}
theorem RefW.hK (h:RefW w r K cK ks W):w.heap.size + 2≤K∧K < W.heap.size:=by
 obtain ⟨_,⟨e,_⟩ | ⟨g,_,_,e,hB,hh,_⟩⟩:=h.own
 ·cases e
 ·injection e with e1
  injection e1 with e1
  injection e1 with e1
  subst e1
  exact ⟨hB,(Array.getElem?_eq_some_iff.1 hh).1⟩
theorem RefW.next (h:RefW w r K cK ks W) (hb:Below W.heap.size W W'):RefW w r K cK ks W' :=
 ⟨h.x.next hb,h.z.next hb,qht h.own hb,fun i hi=>(h.kk i hi).below hb,h.far⟩
theorem RefW.rk (h:RefW w r K cK ks W):RdW qaz 3 W ⟨some ⟨K,0,none⟩,cK,ks⟩:=by
 obtain ⟨x,e,hz,hr⟩:=qdq h.own
 have:x=⟨some ⟨K,0,none⟩,cK,ks⟩:=by
  obtain ⟨xA,xc,xz⟩:=x
  have hz':xz=ks:=hz
  subst hz'
  unfold RW.v at e
  injection e with q1 q2 q3
  subst q1 q3
  rfl
 rw [←this]
 exact hr
theorem RefW.rd (h:RefW w r K cK ks W) (hr:RdP w r):RdP W (kR r K cK ks):=by
 have g:=hr.below h.x.b
 exact ⟨g.e,g.o,h.rk,h.kk,g.m,g.mm,g.fr,g.d,g.dd,g.it,g.ss⟩
theorem RefW.cells (h:RefW w r K cK ks W) {i:Nat} (hi:i < ks.size) (c:Nat) (hc:c < 3):W.cell? ⟨K,i * 3 + c,none⟩=some (qaz ks[i]!)[c]!:=by
 obtain ⟨b,off,e,_,f⟩:=h.rk.rd.at_ (i:=i) hi
 have e':some (⟨K,0,none⟩:Addr)=some ⟨b,off,none⟩:=e
 injection e' with e'
 injection e' with e1 e2
 subst e1 e2
 have:=f c hc
 rwa [Nat.zero_add] at this
theorem RefW.froz (h:RefW w r K cK ks W) (j:Nat):W.frozen? ⟨K,j,none⟩=false:=h.own.frozenAt j
theorem qng (ks:Array KE) (i:Nat) (x:KE) (hi:i < ks.size):(flatK qaz 3 (ks.setIfInBounds i x)).toList=(((flatK qaz 3 ks).toList.set (i * 3) (qaz x)[0]!).set (i * 3 + 1) (qaz x)[1]!).set (i * 3 + 2) (qaz x)[2]!:=by
 have hs:(ks.setIfInBounds i x).size=ks.size:=by simp
 have hl:∀ d:Array KE,(flatK qaz 3 d).toList.length=d.size * 3:=fun d=>by rw [Array.length_toList,size_flatK]
 apply List.ext_getElem?
 intro t
 simp only [List.getElem?_set,List.length_set,hl]
 rcases Nat.lt_or_ge t (ks.size * 3) with ht | ht
 ·have hv:∀ d:Array KE,d.size=ks.size→(flatK qaz 3 d).toList[t]?=some (qaz d[t / 3]!)[t % 3]!:=fun d hd=>by
   have h1:t < (flatK qaz 3 d).size:=by rw [size_flatK,hd];exact ht
   rw [Array.getElem?_toList,Array.getElem?_eq_getElem h1,←getElem!_pos _ t h1,get_flatK _ _ _ _ (by rw [hd];exact ht)]
  rw [hv _ hs,hv _ rfl]
  by_cases h0:t / 3=i
  ·have e:(ks.setIfInBounds i x)[t / 3]! = x:=by rw [h0];exact getElem!_set_same ks i x hi
   rw [e]
   have h3:t % 3=0∨t % 3=1∨t % 3=2:=by omega
   rcases h3 with h3 | h3 | h3
   ·rw [if_neg (by omega),if_neg (by omega),if_pos (by omega),if_pos (by omega),h3]
   ·rw [if_neg (by omega),if_pos (by omega),if_pos (by omega),h3]
   ·rw [if_pos (by omega),if_pos (by omega),h3]
  ·have e:(ks.setIfInBounds i x)[t / 3]! = ks[t / 3]!:=by
    rw [getElem!_def,getElem!_def,Array.getElem?_setIfInBounds,if_neg (Ne.symm h0)]
   rw [e,if_neg (by omega),if_neg (by omega),if_neg (by omega)]
 ·rw [if_neg (by omega),if_neg (by omega),if_neg (by omega),List.getElem?_eq_none (by rw [hl,hs];exact ht),List.getElem?_eq_none (by rw [hl];exact ht)]
theorem RefW.put (h:RefW w r K cK ks W) {i:Nat} (hi:i < ks.size) {x:KE} (hx:RdKE W x) (hfx:FarK w x) :
 RefW w r K cK (ks.setIfInBounds i x) (((W.setCell ⟨K,i * 3,none⟩ (.int .i64 x.base)).setCell ⟨K,i * 3 + 1,none⟩ (.slice x.r.A x.r.z.size x.r.c)).setCell ⟨K,i * 3 + 2,none⟩ (.slice x.a.A x.a.z.size x.a.c)):=by
 obtain ⟨hK1,hK2⟩:=h.hK
 have hs:(ks.setIfInBounds i x).size=ks.size:=by simp
 have he:encP (kR r K cK (ks.setIfInBounds i x))=encP (kR r K cK ks):=by unfold kR encP;simp
 have hcell:∀ b t,(b≠K∨t < i * 3∨i * 3 + 3≤t)→(((W.setCell ⟨K,i * 3,none⟩ (.int .i64 x.base)).setCell ⟨K,i * 3 + 1,none⟩ (.slice x.r.A x.r.z.size x.r.c)).setCell ⟨K,i * 3 + 2,none⟩ (.slice x.a.A x.a.z.size x.a.c)).cell? ⟨b,t,none⟩=W.cell? ⟨b,t,none⟩:=by
  intro b t hbt
  have far:∀ (V:World) (j:Nat) (v:Value),(⟨K,j,none⟩:Addr)≠⟨b,t,none⟩→(V.setCell ⟨K,j,none⟩ v).cell? ⟨b,t,none⟩=V.cell? ⟨b,t,none⟩:=fun V j v hne=>World.cell?_setCell_other V _ _ v hne
  rw [far _ _ _ (by intro e;injection e with e1 e2;omega),far _ _ _ (by intro e;injection e with e1 e2;omega),far _ _ _ (by intro e;injection e with e1 e2;omega)]
 have hH:∀ t,t < ks.size * 3→W.cell? ⟨K,t,none⟩=some (flatK qaz 3 ks)[t]!:=fun t ht=>by
  have:=h.cells (i:=t / 3) (by omega) (t % 3) (Nat.mod_lt _ (by decide))
  rw [show t / 3 * 3 + t % 3=t by omega] at this
  rw [this,get_flatK _ _ _ _ ht]
 have hsz:(((W.setCell ⟨K,i * 3,none⟩ (.int .i64 x.base)).setCell ⟨K,i * 3 + 1,none⟩ (.slice x.r.A x.r.z.size x.r.c)).setCell ⟨K,i * 3 + 2,none⟩ (.slice x.a.A x.a.z.size x.a.c)).heap.size=W.heap.size:=by simp
 have hke:∀ y:KE,RdKE W y→RdKE (((W.setCell ⟨K,i * 3,none⟩ (.int .i64 x.base)).setCell ⟨K,i * 3 + 1,none⟩ (.slice x.r.A x.r.z.size x.r.c)).setCell ⟨K,i * 3 + 2,none⟩ (.slice x.a.A x.a.z.size x.a.c)) y:=fun y hy =>
  ⟨⟨by rw [hsz];exact qfj qnb hH hy.r.rd hi hcell,hy.r.no⟩,⟨by rw [hsz];exact qfj qnc hH hy.a.rd hi hcell,hy.a.no⟩⟩
 refine ⟨?_,?_,?_,?_,fun j hj=>?_⟩
 ·rw [he]
  exact ((h.x.far (g2:=K) (by omega) (by omega) _ _).far (g2:=K) (by omega) (by omega) _ _).far (g2:=K) (by omega) (by omega) _ _
 ·exact ((h.z.far (g2:=K) (by omega) (by omega) _ _).far (g2:=K) (by omega) (by omega) _ _).far (g2:=K) (by omega) (by omega) _ _
 ·rw [hs,qng ks i x hi]
  exact (((h.own.stored (i * 3) _).1.stored (i * 3 + 1) _).1.stored (i * 3 + 2) _).1
 ·intro j hj
  rw [hs] at hj
  by_cases hji:j=i
  ·subst hji
   rw [getElem!_set_same ks j x hi]
   exact hke x hx
  ·rw [show (ks.setIfInBounds i x)[j]! = ks[j]! by rw [getElem!_def,getElem!_def,Array.getElem?_setIfInBounds,if_neg (Ne.symm hji)]]
   exact hke _ (h.kk j hj)
 ·rw [hs] at hj
  by_cases hji:j=i
  ·subst hji
   rw [getElem!_set_same ks j x hi]
   exact hfx
  ·rw [show (ks.setIfInBounds i x)[j]! = ks[j]! by rw [getElem!_def,getElem!_def,Array.getElem?_setIfInBounds,if_neg (Ne.symm hji)]]
   exact h.far j hj
end
end Go.Proofs.YtlkmagmdhopcjaaGreat
namespace Go.Proofs.YtlkmagmdhopcjaaGreat
open Go.RowKit Go.Sort Go.Lib
section
variable {α:Type} [Inhabited α] {enc:α→List Value} {k B g:Nat} {w W:World} {A:Option Addr}
theorem RdK.farG {d:Array α} (h:RdK enc k B w A d) (hn:0 < d.size→∀ p,A=some p→p.block≠g) (hh:∀ b,b≠g→W.heap[b]?=w.heap[b]?):RdK enc k B W A d:=fun h0=>by
 obtain ⟨b,off,e,hlt,hc⟩:=h h0
 exact ⟨b,off,e,hlt,fun t ht=>(qov (p:=⟨b,off + t,none⟩) (hh b (hn h0 _ e))).trans (hc t ht)⟩
theorem RdI_R.farG {d:Array Int} (h:RdI_R B w A d) (hn:0 < d.size→∀ p,A=some p→p.block≠g) (hh:∀ b,b≠g→W.heap[b]?=w.heap[b]?):RdI_R B W A d:=fun h0=>by
 obtain ⟨b,off,e,hlt,hc⟩:=h h0
 exact ⟨b,off,e,hlt,fun t ht=>(qov (p:=⟨b,off + t,none⟩) (hh b (hn h0 _ e))).trans (hc t ht)⟩
theorem RdN.farG {x:RW α} (h:RdN enc k w x) (hs:W.heap.size=w.heap.size) (hn:0 < x.z.size→∀ p,x.A=some p→p.block≠g) (hh:∀ b,b≠g→W.heap[b]?=w.heap[b]?):RdN enc k W x :=
 ⟨by rw [hs];exact h.rd.farG hn hh,h.no⟩
end
theorem RdJ.farG {w W:World} {g:Nat} {x:RW Int} (h:RdJ w x) (hs:W.heap.size=w.heap.size) (hn:0 < x.z.size→∀ p,x.A=some p→p.block≠g) (hh:∀ b,b≠g→W.heap[b]?=w.heap[b]?):RdJ W x :=
 ⟨by rw [hs];exact h.rd.farG hn hh,h.cz,h.no⟩
def FreshA (B:Nat) (A:Option Addr):Prop:=∀ q,A=some q→B≤q.block
theorem FreshA.mono {B B':Nat} {A:Option Addr} (h:FreshA B A) (hb:B'≤B):FreshA B' A:=fun q hq=>Nat.le_trans hb (h q hq)
theorem qdj {α:Type} [Inhabited α] {enc:α→List Value} {k:Nat} {w:World} {d:Array α} {base:Nat} {e:TypeId} {v:Value} (h:w.ownsRow base e k v d.size (flatK enc k d).toList) :
 ∃ A c,v=.slice A d.size c∧RdK enc k w.heap.size w A d∧(A=none→c=0)∧(∀ a,A=some a→base≤a.block):=by
 by_cases hn:v=.slice none 0 0
 ·subst hn
  obtain ⟨_,⟨_,h0⟩ | ⟨g,cap,cur,hv,_⟩⟩:=h
  ·exact ⟨none,0,by rw [h0],fun h=>absurd h0 (by omega),fun _=>rfl,fun _ h=>by cases h⟩
  ·cases hv
 ·obtain ⟨g,cap,hv,hb,hlt,hH⟩:=qbo h hn
  exact ⟨_,cap,hv,RdK.of_holds hH hlt,(fun h=>by cases h),fun a h=>by injection h with h;subst h;exact hb⟩
theorem SepR.monoG {r s:RP} {B B':Nat} {W:World} (h:SepR r B W s) (hb:B'≤B):SepR r B' W s:=fun V hr ho hs=>h V hr (fun j j1 j2=>ho j (by omega) j2) hs
end Go.Proofs.YtlkmagmdhopcjaaGreat
namespace Go.Proofs.YtlkmagmdhopcjaaGreat
open Go.RowKit Go.Sort Go.Lib
set_option maxRecDepth 100000
def qsm (t:TypeId) (v:Value):Sem Value:=Instr.loadAt t v
def qwi (t:TypeId) (v x:Value):Sem Unit:=Instr.storeAt t v x
theorem qdk (ρ:Operand→Value) (dst:Option Tmp) (x:Operand) (ty:TypeId) (pos:String) (after:Array Edge) (guard:Option (Nat×Bool)) :
 execOp ρ { dst,op:=.load 58 x,type:=ty,pos,after,guard }=(do pure (.value (← qsm 58 (ρ x)))):=rfl
theorem qed (ρ:Operand→Value) (dst:Option Tmp) (x y:Operand) (ty:TypeId) (pos:String) (after:Array Edge) (guard:Option (Nat×Bool)) :
 execOp ρ { dst,op:=.store 58 x y,type:=ty,pos,after,guard }=(do qwi 58 (ρ x) (ρ y);pure .skip):=rfl
theorem qnt (ρ:Operand→Value) (dst:Option Tmp) (x:Operand) (ty:TypeId) (pos:String) (after:Array Edge) (guard:Option (Nat×Bool)) :
 execOp ρ { dst,op:=.load 176 x,type:=ty,pos,after,guard }=(do pure (.value (← qsm 176 (ρ x)))):=rfl
theorem qgz (W:World) (g:Nat) (h:qap W g 10=true):(qsm 58 (.pointer (some ⟨g,0,none⟩))).run Tryz.prog W=.ok (.agg (rowAt W g)) W:=by
 obtain ⟨t,h1,h2⟩:=qey h
 simp only [qsm,Instr.loadAt,Instr.sureAddr,Sem.run_bind,Sem.run_pure,Result.andThen]
 exact run_loadVar_row W g t 58 _ (0,0) _ h1 Tryz.underlying58 rfl (by rw [h2];kernel_rfl)
theorem qum (W:World) (g:Nat) (h:qap W g 6=true):(qsm 176 (.pointer (some ⟨g,0,none⟩))).run Tryz.prog W=.ok (.agg (rowAt W g)) W:=by
 obtain ⟨t,h1,h2⟩:=qey h
 simp only [qsm,Instr.loadAt,Instr.sureAddr,Sem.run_bind,Sem.run_pure,Result.andThen]
 exact run_loadVar_row W g t 176 _ (0,0) _ h1 Tryz.underlying176 rfl (by rw [h2];kernel_rfl)
theorem qho (W:World) (g:Nat) (cs:Array Value) (h:qap W g 10=true) (hc:cs.size=10) (h1:qbt cs=true) :
 (qwi 58 (.pointer (some ⟨g,0,none⟩)) (.agg cs)).run Tryz.prog W=.ok () (W.setRow g cs):=by
 obtain ⟨t,h2,h3⟩:=qey h
 simp only [qwi,Instr.storeAt,Instr.sureAddr,Sem.run_bind,Sem.run_pure,Result.andThen]
 exact run_storeVar_row W g t 58 _ cs h2 (by rw [hc];kernel_rfl) (by rw [h3,hc]) h1
theorem qhp (W:World) (g:Nat) (zs cs:Array Value) (hg:W.heap.size=g) (hz:zs.size=10) (hc:cs.size=10) (h1:qbt cs=true) :
 (qwi 58 (.pointer (some ⟨g,0,none⟩)) (.agg cs)).run Tryz.prog (W.alloc (.cells zs 58))=.ok () (W.alloc (.cells cs 58)):=by
 subst hg
 exact run_storeAt_new W 58 zs cs (by rw [hc];kernel_rfl) (by rw [hz,hc]) h1
theorem qep (e:EN):qbt (encE e).toArray=true:=by simp [qbt,encE,Value.oneCell']
theorem qbk {B:Nat} {w W:World} {g:Nat} (h:Below B w W) (hg:B≤g) (cs:Array Value):Below B w (W.setRow g cs):=h.trans ⟨rfl,rfl,rfl,by simp,fun j hj=>setRow_other _ _ j _ (by omega)⟩
end Go.Proofs.YtlkmagmdhopcjaaGreat
