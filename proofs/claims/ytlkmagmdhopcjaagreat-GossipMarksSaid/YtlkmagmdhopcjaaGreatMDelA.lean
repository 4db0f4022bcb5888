/- Texts that the law leans on. -/
import Derived.Test.YtlkmagmdhopcjaaGreatMSrtK
import Derived.Test.YtlkmagmdhopcjaaGreatMKnP
import Derived.Deep.RegionHeld3
import Derived.Test.YtlkmagmdhopcjaaGreatMTbH
namespace Go.Proofs.YtlkmagmdhopcjaaGreat
open Go.RowKit Go.Sort Go.Lib
set_option maxRecDepth 100000
set_option maxHeartbeats 8000000 in
theorem attDel (p:Int×Int→Bool) (g:Nat) (lb:Array Value) (eg:∀ args w,(callFunc g args).run Tryz.prog w=.ok (.enter g args) w) (blk off cap:Nat) (d:Array (Int×Int)) (w:World)
 (hp:∀ W x,w.grownBy W (some blk)→Calls Tryz.prog g (#[.agg (qaf x).toArray] ++ lb) W fun e w'=>e=.returned (.bool (p x))∧Below W.heap.size W w')
 (hH:HoldsK qaf 2 w blk off d) (hlt:blk < w.heap.size) (hsz:d.size≤1000000) (hcap:d.size≤cap) :
 Calls Tryz.prog 69 #[.slice (some ⟨blk,off,none⟩) d.size cap,.func (.func g) #[] lb] w fun e w'=>e=.returned (.slice (some ⟨blk,off,none⟩) (d.toList.filter fun x=>!p x).toArray.size cap)∧w.grownBy w' (some blk)∧RdK qaf 2 w'.heap.size w' (some ⟨blk,off,none⟩) (d.toList.filter fun x=>!p x).toArray:=by
 have tl:∀ j,j < d.size→d.toList[j]! = d[j]!:=fun j hj=>by rw [getElem!_pos d j hj,getElem!_pos d.toList j (by simpa using hj)];simp
 have hIF:=AnyQ.slices_IndexFunc (P:=Tryz.prog) { Tryz.laysContA with } 2 Tryz.isAgg29 Tryz.sizeOf29 qaf qgh p g lb eg blk off d.size cap d.toList w
  (fun W x hb=>(hp W x (qba hb _)).mono fun _ _ ⟨he,hb'⟩=>⟨he,hb.trans (hb'.mono hb.size)⟩) (by simp) (by omega) hlt (fun j hj i v hv=>by
    have hj':j < d.size:=by simpa using hj
    have hi:i < 2:=by
     rcases Nat.lt_or_ge i 2 with h' | h'
     ·exact h'
     ·rw [List.getElem?_eq_none (by rw [qgh];exact h')] at hv;cases hv
    rw [tl j hj'] at hv
    rw [(hH.cell hj' hi).1,List.getElem!_eq_getElem?_getD,hv];rfl)
 rw [show d.toList.take d.size=d.toList from List.take_of_length_le (by simp)] at hIF
 obtain ⟨kp,HK⟩:∃ kp:Nat→Bool,Hid (kp=fun j=>!p d[j]!):=⟨_,rfl⟩
 have hfil:(d.toList.filter fun x=>!p x)=keptUpTo kp d d.size:=by rw [HK.out];exact (keptUpTo_filter (fun x=>!p x) d).symm
 rw [hfil]
 have HH:=hI hH
 have HP:=hI hp
 rcases idxByFrom_spec (fun _ y=>p y) default d.toList 0 with ⟨e1,hall⟩ | ⟨k0,hk0,e1,ht,hall⟩
 ·have e2:Lib.idxBy (fun _ y=>p y) d.toList default = -1:=e1
  rw [e2] at hIF
  have hkeep:∀ j,j < d.size→kp j=true:=fun j hj=>by rw [HK.out];show (!p d[j]!)=true;rw [←tl j hj,hall j (by simpa using hj)];rfl
  have e3:keptUpTo kp d d.size=d.toList:=by rw [keptUpTo_all kp d _ hkeep,range_map_get]
  have HIF:=hI hIF
  clear hH hp hIF hall tl hkeep hfil e1 e2
  have HE3:=hI e3
  clear e3
  go_enter Tryz.func69,Tryz.ntmps69
  go_wp2_with fail
  refine HIF.out.mono ?_
  rintro e w1 ⟨rfl,hb1⟩
  go_wp2
  go_ret
  rw [HE3.out]
  refine ⟨by simp,qba hb1 _,?_⟩
  have hhk:=qfy HH.out hlt hb1
  have:=RdK.of_holds hhk (B:=w1.heap.size) (Nat.lt_of_lt_of_le hlt hb1.size)
  simpa using this
 ·have hk0':k0 < d.size:=by simpa using hk0
  have e2:Lib.idxBy (fun _ y=>p y) d.toList default=(k0:Int):=by unfold Lib.idxBy;rw [e1];simp
  rw [e2] at hIF
  have hkeep:∀ j,j < k0→kp j=true:=fun j hj=>by rw [HK.out];show (!p d[j]!)=true;rw [←tl j (by omega),hall j hj];rfl
  have hdrop:kp k0=false:=by rw [HK.out];show (!p d[k0]!)=false;rw [←tl k0 hk0'];rw [show p d.toList[k0]! = true from ht];rfl
  have hne1:((k0:Int) == -1)=false:=beq_eq_false_iff_ne.2 (by omega)
  have HIF:=hI hIF
  have HST:=hI (KeptInv.start (d:=d) hkeep hdrop)
  clear hH hp hIF hall ht e1 e2 tl hkeep hdrop hfil
  go_enter Tryz.func69,Tryz.ntmps69
  go_wp2_with fail
  refine HIF.out.mono ?_
  rintro e w1 ⟨rfl,hb1⟩
  have HB1:=hI hb1
  clear hb1 HIF
  go_wp2
  go_loopg [5,6] d.size (fun gg s5 s6 wr=>∃ (i j:Nat) (dk:Array (Int×Int)),s5=.int .i64 i∧s6=.int .i64 j∧j≤d.size∧d.size - j≤gg∧Aside (SrtK qaf 2 w blk off dk wr)∧Aside (KeptInv kp d j i dk))
  case atStart=>exact ⟨k0,k0 + 1,d,rfl,by go_num,by omega,by omega,(SrtK.refl HH.out hlt).below HB1.out,HST.out⟩
  case round =>
   obtain ⟨i,j,dk,rfl,rfl,hjd,hgg,S2,I2⟩:=hrel
   have hij:=I2.out.lt
   have hds:=I2.out.size
   by_cases hlt2:j < d.size
   ·have hltz:(j:Int) < (d.size:Int):=by omega
    have cj0:=(S2.out.holds.cell (i:=j) (c:=0) (by omega) (by decide)).1
    have cj1:=(S2.out.holds.cell (i:=j) (c:=1) (by omega) (by decide)).1
    rw [I2.out.high j (by omega)] at cj0 cj1
    obtain ⟨u,hu⟩:∃ u,d[j]! = u:=⟨_,rfl⟩
    rw [hu] at cj0 cj1
    have C:Aside (d[j]! = u):=hu
    clear hu
    simp only [qaf,List.getElem!_cons_zero,List.getElem!_cons_succ,Nat.add_zero] at cj0 cj1
    have HC:=hI (fun W (hg:w.grownBy W (some blk))=>HP.out W u hg)
    have ilz:(i:Int) < (d.size:Int):=by omega
    have hw2:∀ w2,Below (wr.alloc (.cells #[.int .i64 u.1,.int .i64 u.2] 29)).heap.size (wr.alloc (.cells #[.int .i64 u.1,.int .i64 u.2] 29)) w2→SrtK qaf 2 w blk off dk w2∧w2.cell? ⟨wr.heap.size,0,none⟩=some (.int .i64 u.1)∧w2.cell? ⟨wr.heap.size,1,none⟩=some (.int .i64 u.2):=fun w2 hb=>by
     have hS:=S2.out.below (qaa (bel1 wr _) hb)
     refine ⟨hS,?_,?_⟩
     all_goals exact (hb.cell (p:=⟨wr.heap.size,_,none⟩) (by simp)).trans (qbb wr _ _ _)
    have HW2:=hI hw2
    clear hw2
    cases hq:p u with
    | false =>
      rw [hq] at HC
      go_wp2_with fail
      refine (HC.out _ (qbj S2.out.grown (qba (bel1 wr _) _))).mono ?_
      rintro e w2 ⟨rfl,hb2⟩
      obtain ⟨hS,uu0,uu1⟩:=HW2.out w2 hb2
      have HS:=hI hS
      have ci0:=hS.holds.cell (i:=i) (c:=0) (by omega) (by decide)
      have cc0:=ci0.1
      have cf0:=ci0.2
      have ci1:=hS.holds.cell (i:=i) (c:=1) (by omega) (by decide)
      have cc1:=ci1.1
      have cf1:=ci1.2
      simp only [Nat.add_zero] at cc0 cf0
      clear hS hb2 HC HW2 ci0 ci1
      generalize (qaf dk[i]!)[0]! = old0 at cc0
      generalize (qaf dk[i]!)[1]! = old1 at cc1
      go_wp2
      go_roundg (d.size - (j + 1))
      case measure=>omega
      case rel =>
       refine ⟨i + 1,j + 1,dk.setIfInBounds i u,by go_num,by go_num,by omega,Nat.le_refl _,HS.out.put qgh (by omega) u,(show Aside _ from ?_)⟩
       have:=I2.out.keep hlt2 (by rw [HK.out];show (!p d[j]!)=true;rw [C.out,hq];rfl)
       rwa [C.out] at this
    | true =>
      rw [hq] at HC
      go_wp2_with fail
      refine (HC.out _ (qbj S2.out.grown (qba (bel1 wr _) _))).mono ?_
      rintro e w2 ⟨rfl,hb2⟩
      have HS:=hI (HW2.out w2 hb2).1
      clear hb2 HC HW2
      go_wp2
      go_roundg (d.size - (j + 1))
      case measure=>omega
      case rel=>exact ⟨i,j + 1,dk,rfl,by go_num,by omega,Nat.le_refl _,HS.out,I2.out.skip (by rw [HK.out];show (!p d[j]!)=false;rw [C.out,hq];rfl)⟩
   ·obtain rfl:j=d.size:=by omega
    have hltz:¬ (d.size:Int) < (d.size:Int):=by omega
    have ilz:(i:Int) < (d.size:Int):=by omega
    have icz:(i:Int)≤(cap:Int):=by omega
    have hnc:(cap=i)=False:=by simp;omega
    obtain ⟨zs,hzs,hcl⟩:∃ zs,zs=zs∧∀ ty,(Builtin.clear_ #[23] ty #[.slice (some ⟨blk,off + i * 2,none⟩) (d.size - i) (cap - i)]).run Tryz.prog wr=.ok (.tuple #[]) (wr.setCells blk (off + i * 2) zs):=by
     refine ⟨_,rfl,fun ty=>qev wr _ _ ty _ Tryz.underlying23 Tryz.zeroValue29 (qgw _ _ (by simp [Value.cells,Value.oneCell'])) blk (off + i * 2) _ (by omega) (fun t ht=>?_) (fun t ht=>?_)⟩
     all_goals
      rw [qec] at ht
      have ht':t < (d.size - i) * 2:=ht
      have hb:=S2.out.holds (i * 2 + t) (by rw [size_flatK];have:=Nat.mul_le_mul_right 2 (show i≤d.size by omega);rw [Nat.sub_mul] at ht';omega)
      rw [←Nat.add_assoc] at hb
     ·rw [hb.1];rfl
     ·exact hb.2
    have HS:=hI S2.out
    have HI:=hI I2.out
    clear hzs S2 I2
    go_wp2
    go_ret
    have hlen:=HI.out.len
    refine ⟨?_,?_,?_⟩
    ·simp only [hlen];rfl
    ·exact qbj HS.out.grown (qdi _ _ _ _)
    ·have:=que HS.out HI.out zs
     simpa using this
end Go.Proofs.YtlkmagmdhopcjaaGreat
namespace Go.Proofs.YtlkmagmdhopcjaaGreat
open Go.RowKit Go.Sort Go.Lib
set_option maxRecDepth 100000
theorem qoy (k:KN):(chkE k != 0) = !chkB k:=by unfold chkE;cases chkB k <;> rfl
def addP (base:Int) (rs:Array (Int×Int)) (x:Int×Int):Bool:=decide (x.1≤base) || qbx rs x.1
set_option maxHeartbeats 2000000 in
theorem kAdd1_any (base:Int) (rs:Array (Int×Int)) (A1:Option Addr) (c1:Nat) (x:Int×Int) (g:Nat) (w:World) (hg:g < w.heap.size) (hc0:w.cell? ⟨g,0,none⟩=some (.int .i64 base)) (hc:w.cell? ⟨g,1,none⟩=some (.slice A1 rs.size c1)) (h:RdK encR 2 w.heap.size w A1 rs) :
 Calls Tryz.prog 70 #[.agg #[.int .i64 x.1,.int .i64 x.2],.pointer (some ⟨g,0,none⟩)] w fun e w'=>e=.returned (.bool (addP base rs x))∧Below w.heap.size w w':=by
 have HR:=hI h
 clear h
 have k0:(w.alloc (.cells #[.int .i64 x.1,.int .i64 x.2] 29)).cell? ⟨g,0,none⟩=some (.int .i64 base):=(World.cell?_alloc_lt w _ _ hg).trans hc0
 have hc1:(w.alloc (.cells #[.int .i64 x.1,.int .i64 x.2] 29)).cell? ⟨g,1,none⟩=some (.slice A1 rs.size c1):=(World.cell?_alloc_lt w _ _ hg).trans hc
 have HH:=hI (qjp A1 c1 rs x.1 (w.alloc (.cells #[.int .i64 x.1,.int .i64 x.2] 29)) ((HR.out.alloc (Nat.le_refl _) _).mono (bel1 w _).size))
 have HP:Hid (addP base rs x=(decide (x.1≤base) || qbx rs x.1)):=hI rfl
 generalize qbx rs x.1=hv at HH HP
 cases hd:decide (x.1≤base)
 ·rw [hd,Bool.false_or] at HP
  go_enter Tryz.func70,Tryz.ntmps70
  go_wp2_with fail
  refine HH.out.mono ?_
  rintro e w1 ⟨rfl,hb1⟩
  go_wp2
  go_ret
  exact ⟨qac HP.out.symm,qaa (bel1 w _) hb1⟩
 ·rw [hd,Bool.true_or] at HP
  clear HH
  go_enter Tryz.func70,Tryz.ntmps70
  go_wp2
  go_ret
  exact ⟨qac HP.out.symm,bel1 w _⟩
theorem cont_any (A:Option Addr) (c:Nat) (d:Array Int) (x:Int) (w:World) (h:RdI_R w.heap.size w A d) (hd:d.size≤100000000) :
 Calls Tryz.prog 169 #[.slice A d.size c,.int .i64 x] w fun e w'=>e=.returned (.bool (d.toList.contains x))∧w=w':=by
 rcases Nat.eq_zero_or_pos d.size with h0 | h0
 ·have e0:d=#[]:=Array.eq_empty_of_size_eq_zero h0
  subst e0
  exact (Tryz.slices_Contains_int_empty A c x w).mono fun e w' ⟨he,hw⟩=>⟨by rw [he];rfl,hw.symm⟩
 ·obtain ⟨b,off,rfl,hb,hc⟩:=h h0
  have:=Tryz.slices_Contains_int b off d.size c d.toList x w (by simp) (by omega) (fun j hj=>by
   have hj':j < d.size:=by simpa using hj
   rw [hc j hj']
   simp [List.getD_eq_getElem?_getD,hj'])
  refine this.mono fun e w' ⟨he,hw⟩=>⟨?_,hw.symm⟩
  rw [he,show d.toList.take d.size=d.toList from List.take_of_length_le (by simp)]
set_option maxHeartbeats 2000000 in
theorem qqp (ids:Array Int) (A:Option Addr) (c:Nat) (x:Int×Int) (g:Nat) (w:World) (hg:g < w.heap.size) (hc:w.cell? ⟨g,0,none⟩=some (.slice A ids.size c)) (h:RdI_R w.heap.size w A ids) (hd:ids.size≤100000000) :
 Calls Tryz.prog 168 #[.agg #[.int .i64 x.1,.int .i64 x.2],.pointer (some ⟨g,0,none⟩)] w fun e w'=>e=.returned (.bool (qfq ids x))∧Below w.heap.size w w':=by
 have hc1:(w.alloc (.cells #[.int .i64 x.1,.int .i64 x.2] 29)).cell? ⟨g,0,none⟩=some (.slice A ids.size c):=(World.cell?_alloc_lt w _ _ hg).trans hc
 have HH:=hI (cont_any A c ids x.2 (w.alloc (.cells #[.int .i64 x.1,.int .i64 x.2] 29)) ((h.alloc (Nat.le_refl _) _).mono (bel1 w _).size) hd)
 have HP:Hid (qfq ids x=ids.toList.contains x.2):=hI rfl
 generalize ids.toList.contains x.2=hv at HH HP
 clear h
 go_enter Tryz.func168,Tryz.ntmps168
 go_wp2_with fail
 refine HH.out.mono ?_
 rintro e w1 ⟨rfl,rfl⟩
 go_wp2
 go_ret
 exact ⟨qac HP.out.symm,bel1 w _⟩
def sameK (k j:KN):Bool:=(k.base == j.base) && decide (k.rs=j.rs) && decide (k.ats=j.ats)
theorem qqq {k j:KN}:sameK k j=true↔k=j:=by
 obtain ⟨a,b,c⟩:=k
 obtain ⟨d,e,f⟩:=j
 unfold sameK
 simp [and_assoc]
end Go.Proofs.YtlkmagmdhopcjaaGreat
namespace Go.Proofs.YtlkmagmdhopcjaaGreat
open Go.RowKit Go.Sort Go.Lib
set_option maxRecDepth 100000
theorem qoz (w:World) (o o':Obj):((w.alloc o).alloc o').heap[w.heap.size]?=some o∧((w.alloc o).alloc o').heap[w.heap.size + 1]?=some o' :=
 ⟨qcj (heap_alloc_new w o),by rw [show w.heap.size + 1=(w.alloc o).heap.size by simp];exact heap_alloc_new _ _⟩
theorem blk3 {W:World} {g:Nat} {a b c:Value} {T:TypeId} (h:W.heap[g]?=some (.cells #[a,b,c] T (0,0))):(W.cell? ⟨g,0,none⟩=some a∧W.cell? ⟨g,1,none⟩=some b∧W.cell? ⟨g,2,none⟩=some c)∧∀ i,W.frozen? ⟨g,i,none⟩=false:=by
 refine ⟨⟨?_,?_,?_⟩,fun i=>by simp [World.frozen?,h]⟩
 ·rw [cell_of_row W _ 0 _ _ (0,0) h];rfl
 ·rw [cell_of_row W _ 1 _ _ (0,0) h];rfl
 ·rw [cell_of_row W _ 2 _ _ (0,0) h];rfl
theorem qdf {W:World} {g:Nat} {o:Obj} (h:W.heap[g]?=some o):g < W.heap.size:=by
 rcases Nat.lt_or_ge g W.heap.size with h' | h'
 ·exact h'
 ·rw [Array.getElem?_eq_none h'] at h;cases h
theorem qar {W W':World} {g:Nat} {o:Obj} (h:W.heap[g]?=some o) (hb:Below W.heap.size W W'):W'.heap[g]?=some o:=(hb.block g (qdf h)).trans h
set_option maxHeartbeats 4000000 in
theorem kAdd_bad (base:Int) (rs ats:Array (Int×Int)) (A1:Option Addr) (c1:Nat) (A2:Option Addr) (c2:Nat) (lo hi:Int) (atts:Array (Int×Int)) (A3:Option Addr) (c3:Nat) (w:World) (h1:RdK encR 2 w.heap.size w A1 rs) (h2:RdK qaf 2 w.heap.size w A2 ats) (h3:RdK qaf 2 w.heap.size w A3 atts) (hs:atts.size≤1000000) (hbad:addB ⟨base,rs,ats⟩ lo hi atts=false) :
 Calls Tryz.prog 30 #[.agg #[.int .i64 base,.slice A1 rs.size c1,.slice A2 ats.size c2],.int .i64 lo,.int .i64 hi,.slice A3 atts.size c3] w fun e w'=>e=.returned (.tuple #[.agg #[.int .i64 0,.slice none 0 0,.slice none 0 0],.int .i64 2])∧Below w.heap.size w w':=by
 have HC:Hid (∀ W,Below w.heap.size w W→Calls Tryz.prog 67 #[.agg #[.int .i64 base,.slice A1 rs.size c1,.slice A2 ats.size c2]] W fun e w'=>e=.returned (.int .i64 (chkE ⟨base,rs,ats⟩))∧Below W.heap.size W w'):=fun W hb=>qge base rs ats A1 c1 A2 c2 W ((h1.below hb).mono hb.size) ((h2.below hb).mono hb.size)
 have HRi:Hid (∀ W,Below w.heap.size w W→Calls Tryz.prog 68 #[.slice A3 atts.size c3,.int .i64 lo,.int .i64 hi] W fun e w'=>e=.returned (.bool (qdg hi lo atts.toList))∧Below W.heap.size W w'):=fun W hb=>qpl A3 c3 atts lo hi W ((h3.below hb).mono hb.size) hs
 have HBd:=hI hbad
 have q0:=qoy ⟨base,rs,ats⟩
 clear h1 h2 h3 hbad
 generalize chkE ⟨base,rs,ats⟩=ce at q0 HC
 have HT:=hI (qoz w (.cells #[.int .i64 base,.slice A1 rs.size c1,.slice A2 ats.size c2] 66) (.cells #[.int .i64 0,.slice none 0 0,.slice none 0 0] 66))
 cases hc:chkB ⟨base,rs,ats⟩
 ·rw [hc] at q0
  clear hc
  go_enter Tryz.func30,Tryz.ntmps30
  go_wp2_with fail
  refine (HC.out _ (qab (bel1 w _) _)).mono ?_
  rintro e w1 ⟨rfl,hb1⟩
  obtain ⟨⟨k0,k1,k2⟩,f0⟩:=blk3 (qar HT.out.2 hb1)
  have HB1:=hI (qaa (qab (bel1 w _) _) hb1)
  clear hb1
  go_wp2
  refine bodyPost_ret (v:=.tuple #[.agg #[.int .i64 0,.slice none 0 0,.slice none 0 0],.int .i64 2]) (by simp [results,Tryz.results30,go_sem,k0,k1,k2]) rfl ⟨rfl,?_⟩
  exact ((HB1.out.setCell (by simp) _).setCell (by simp) _).setCell (by simp) _
 ·rw [hc] at q0
  have HQ:Hid (lo < 0∨hi < lo∨1000000 < hi∨qdg hi lo atts.toList=false):=by
   show _∨_
   have h:=HBd.out
   unfold addB at h
   rw [hc,Bool.true_and,Bool.and_eq_false_iff,decide_eq_false_iff_not] at h
   by_cases g1:lo < 0
   ·exact Or.inl g1
   ·by_cases g2:hi < lo
    ·exact Or.inr (Or.inl g2)
    ·by_cases g3:1000000 < hi
     ·exact Or.inr (Or.inr (Or.inl g3))
     ·exact Or.inr (Or.inr (Or.inr (by rcases h with h | h;exact absurd ⟨by omega,by omega,by omega⟩ h;exact h)))
  clear hc
  by_cases g1:lo < 0
  ·have d1:decide (lo < 0)=true:=by simpa using g1
   clear g1
   go_enter Tryz.func30,Tryz.ntmps30
   go_wp2_with fail
   refine (HC.out _ (qab (bel1 w _) _)).mono ?_
   rintro e w1 ⟨rfl,hb1⟩
   obtain ⟨⟨k0,k1,k2⟩,f0⟩:=blk3 (qar HT.out.2 hb1)
   have HB1:=hI (qaa (qab (bel1 w _) _) hb1)
   clear hb1
   go_wp2
   refine bodyPost_ret (v:=.tuple #[.agg #[.int .i64 0,.slice none 0 0,.slice none 0 0],.int .i64 2]) (by simp [results,Tryz.results30,go_sem,k0,k1,k2]) rfl ⟨rfl,?_⟩
   exact ((HB1.out.setCell (by simp) _).setCell (by simp) _).setCell (by simp) _
  ·have d1:decide (lo < 0)=false:=decide_eq_false g1
   by_cases g2:hi < lo
   ·have d2:decide (hi < lo)=true:=by simpa using g2
    clear g1 g2
    go_enter Tryz.func30,Tryz.ntmps30
    go_wp2_with fail
    refine (HC.out _ (qab (bel1 w _) _)).mono ?_
    rintro e w1 ⟨rfl,hb1⟩
    obtain ⟨⟨k0,k1,k2⟩,f0⟩:=blk3 (qar HT.out.2 hb1)
    have HB1:=hI (qaa (qab (bel1 w _) _) hb1)
    clear hb1
    go_wp2
    refine bodyPost_ret (v:=.tuple #[.agg #[.int .i64 0,.slice none 0 0,.slice none 0 0],.int .i64 2]) (by simp [results,Tryz.results30,go_sem,k0,k1,k2]) rfl ⟨rfl,?_⟩
    exact ((HB1.out.setCell (by simp) _).setCell (by simp) _).setCell (by simp) _
   ·have d2:decide (hi < lo)=false:=decide_eq_false g2
    by_cases g3:1000000 < hi
    ·have d3:decide (1000000 < hi)=true:=by simpa using g3
     clear g1 g2 g3
     go_enter Tryz.func30,Tryz.ntmps30
     go_wp2_with fail
     refine (HC.out _ (qab (bel1 w _) _)).mono ?_
     rintro e w1 ⟨rfl,hb1⟩
     obtain ⟨⟨k0,k1,k2⟩,f0⟩:=blk3 (qar HT.out.2 hb1)
     have HB1:=hI (qaa (qab (bel1 w _) _) hb1)
     clear hb1
     go_wp2
     refine bodyPost_ret (v:=.tuple #[.agg #[.int .i64 0,.slice none 0 0,.slice none 0 0],.int .i64 2]) (by simp [results,Tryz.results30,go_sem,k0,k1,k2]) rfl ⟨rfl,?_⟩
     exact ((HB1.out.setCell (by simp) _).setCell (by simp) _).setCell (by simp) _
    ·have d3:decide (1000000 < hi)=false:=decide_eq_false g3
     have g4:qdg hi lo atts.toList=false:=by
      rcases HQ.out with g | g | g | g
      ·exact absurd g g1
      ·exact absurd g g2
      ·exact absurd g g3
      ·exact g
     rw [g4] at HRi
     clear g1 g2 g3 g4 HQ
     go_enter Tryz.func30,Tryz.ntmps30
     go_wp2_with fail
     refine (HC.out _ (qab (bel1 w _) _)).mono ?_
     rintro e w1 ⟨rfl,hb1⟩
     have HT1:=hI (qar HT.out.2 hb1)
     have HB1:=hI (qaa (qab (bel1 w _) _) hb1)
     clear hb1
     go_wp2_with fail
     refine (HRi.out _ HB1.out).mono ?_
     rintro e w2 ⟨rfl,hb2⟩
     obtain ⟨⟨k0,k1,k2⟩,f0⟩:=blk3 (qar HT1.out hb2)
     have HB2:=hI (qaa HB1.out hb2)
     clear hb2
     go_wp2
     refine bodyPost_ret (v:=.tuple #[.agg #[.int .i64 0,.slice none 0 0,.slice none 0 0],.int .i64 2]) (by simp [results,Tryz.results30,go_sem,k0,k1,k2]) rfl ⟨rfl,?_⟩
     exact ((HB2.out.setCell (by simp) _).setCell (by simp) _).setCell (by simp) _
set_option maxHeartbeats 1000000 in
theorem idxA_nil (fv:Value) (c:Nat) (w:World) :
 Calls Tryz.prog 149 #[.slice none 0 c,fv] w fun e w'=>e=.returned (.int .i64 (-1))∧w=w':=by
 go_enter Tryz.func149,Tryz.ntmps149
 go_wp2
 refine wp_loop_rounds 1 ?_;rw [rounds_succ]
 go_wp2
 go_ret
 exact ⟨rfl,rfl⟩
set_option maxHeartbeats 1000000 in
theorem delA_nil (fv:Value) (c:Nat) (w:World) :
 Calls Tryz.prog 69 #[.slice none 0 c,fv] w fun e w'=>e=.returned (.slice none 0 c)∧w=w':=by
 go_enter Tryz.func69,Tryz.ntmps69
 go_wp2_with (go_at_call 149;refine (idxA_nil _ _ _).mono ?_;rintro e w' ⟨rfl,rfl⟩)
 go_ret
 exact ⟨rfl,rfl⟩
theorem qpa (p:Int×Int→Bool) (g:Nat) (lb:Array Value) (eg:∀ args w,(callFunc g args).run Tryz.prog w=.ok (.enter g args) w) (v:Value) (d:Array (Int×Int)) (B:Nat) (w:World)
 (hp:∀ W x,(∀ i,i < B→W.heap[i]?=w.heap[i]?)→B≤W.heap.size→Calls Tryz.prog g (#[.agg (qaf x).toArray] ++ lb) W fun e w'=>e=.returned (.bool (p x))∧Below W.heap.size W w')
 (hown:w.ownsRow B 29 2 v d.size (flatK qaf 2 d).toList) (hB:B≤w.heap.size) (hsz:d.size≤1000000) :
 Calls Tryz.prog 69 #[v,.func (.func g) #[] lb] w fun e w'=>∃ A c,e=.returned (.slice A (d.toList.filter fun x=>!p x).toArray.size c)∧RdK qaf 2 w'.heap.size w' A (d.toList.filter fun x=>!p x).toArray∧(A=none→c=0)∧(∀ g off,A=some ⟨g,off,none⟩→B≤g)∧Below B w w':=by
 by_cases hn:v=.slice none 0 0
 ·subst hn
  have h0:d.size=0:=by
   obtain ⟨_,⟨_,h0⟩ | ⟨g,cap,cur,hv,_⟩⟩:=hown
   ·exact h0
   ·cases hv
  obtain rfl:d=#[]:=Array.eq_empty_of_size_eq_zero h0
  refine (delA_nil _ 0 w).mono ?_
  rintro e w' ⟨rfl,rfl⟩
  exact ⟨none,0,rfl,fun h=>absurd h (by simp),fun _=>rfl,(fun g off e=>by cases e),Below.refl _ _⟩
 ·have hcap:∀ gg cap,v=.slice (some ⟨gg,0,none⟩) d.size cap→d.size≤cap:=fun gg cap e=>by
   obtain ⟨_,⟨h1,_⟩ | ⟨g2,cap2,cur,hv,_,_,hnc,_⟩⟩:=hown
   ·exact absurd h1 hn
   ·rw [hv] at e
    injection e with _ _ e3
    omega
  obtain ⟨gb,cap,rfl,hgb,hlt,hH⟩:=qbo hown hn
  refine (attDel p g lb eg gb 0 cap d w (fun W x hg=>hp W x (fun i hi=>hg.block i (by omega) (fun e=>by injection e with e;omega)) (Nat.le_trans hB hg.size)) hH hlt hsz (hcap _ _ rfl)).mono ?_
  rintro e w' ⟨rfl,hg,hr⟩
  exact ⟨_,_,rfl,hr,(fun h=>by cases h),(fun g off e=>by injection e with e;injection e with e1 e2;omega),⟨hg.os,hg.tape,hg.output,hg.size,fun i hi=>hg.block i (by omega) (fun e=>by injection e with e;omega)⟩⟩
end Go.Proofs.YtlkmagmdhopcjaaGreat
namespace Go.Proofs.YtlkmagmdhopcjaaGreat
open Go.RowKit Go.Sort Go.Lib
set_option maxRecDepth 100000
theorem RdK.blocks {α:Type} [Inhabited α] {enc:α→List Value} {k B0 B:Nat} {w W:World} {A:Option Addr} {d:Array α} (h:RdK enc k B0 w A d) (hB:B0≤B) (hb:∀ i,i < B→W.heap[i]?=w.heap[i]?):RdK enc k B0 W A d:=fun h0=>by
 obtain ⟨b,off,e,hlt,hc⟩:=h h0
 exact ⟨b,off,e,hlt,fun t ht=>(World.cell?_of_block (a:=⟨b,off + t,none⟩) (hb b (by omega))).trans (hc t ht)⟩
theorem RdK.far {α:Type} [Inhabited α] {enc:α→List Value} {k B:Nat} {w:World} {A:Option Addr} {d:Array α} (h:RdK enc k B w A d) (p:Addr) (v:Value) (hp:∀ g off,A=some ⟨g,off,none⟩→g≠p.block):RdK enc k B (w.setCell p v) A d:=fun h0=>by
 obtain ⟨b,off,e,hlt,hc⟩:=h h0
 exact ⟨b,off,e,hlt,fun t ht=>(World.cell?_setCell_far w p ⟨b,off + t,none⟩ v (Ne.symm (hp b off e))).trans (hc t ht)⟩
theorem qsu {w:World} {g:Nat} {d:Array Int} {T:TypeId} (h:w.heap[g]?=some (.cells (d.map qcv) T (0,0))):RdI_R w.heap.size w (some ⟨g,0,none⟩) d:=fun _ =>
 ⟨g,0,rfl,qdf h,fun t ht=>by
  rw [Nat.zero_add,cell_of_row w g t _ _ (0,0) h]
  simp [qcv,ht]⟩
theorem SrtK.putLo {w w1:World} {g:Nat} {dk:Array (Int×Int)} (h:SrtK encR 2 w g 0 dk w1) {k:Nat} (hk:k < dk.size) (a:Int):SrtK encR 2 w g 0 (dk.setIfInBounds k (a,dk[k]!.2)) (w1.setCell ⟨g,k * 2,none⟩ (.int .i64 a)):=by
 have hik:k * 2 + 2≤dk.size * 2:=by omega
 refine ⟨?_,h.lt,qbj h.grown (qeb _ _ _ _)⟩
 unfold HoldsK
 rw [qse qdl dk k hk]
 have h1:=holds_setCells_c h.holds (k * 2) [.int .i64 a] (by rw [size_flatK];simp;omega)
 have e1:(flatK encR 2 dk)[k * 2 + 1]! = .int .i64 dk[k]!.2:=by
  rw [qhi encR 2 dk k 1 hk (by decide)];rfl
 have e:setMany (flatK encR 2 dk) (k * 2) (encR (a,dk[k]!.2))=setMany (flatK encR 2 dk) (k * 2) [.int .i64 a]:=by
  have hs:k * 2 + 1 < (flatK encR 2 dk).size:=by rw [size_flatK];omega
  apply Array.ext
  ·simp
  ·intro t h1 h2
   have ht:t < (flatK encR 2 dk).size:=by simpa using h1
   rw [←getElem!_pos _ t h1,←getElem!_pos _ t h2,get_setMany _ _ _ t ht,get_setMany _ _ _ t ht]
   by_cases c1:t=k * 2
   ·subst c1;simp [encR]
   ·by_cases c2:t=k * 2 + 1
    ·subst c2
     rw [e1]
     simp [encR]
    ·have l2:(encR (a,dk[k]!.2)).length=2:=rfl
     have l1:[Value.int .i64 a].length=1:=rfl
     rw [l2,l1,if_neg (by omega),if_neg (by omega)]
 rw [e]
 have h2:=h1
 rw [Nat.zero_add] at h2
 exact h2
def mxR (base:Int) (r:Int×Int):Int×Int:=(max r.1 (base + 1),r.2)
theorem moreK_eq (base lo hi:Int) (told:List Int):qtj base lo hi told=(betL lo hi (lo + 1) told).toArray.map (mxR base):=by
 unfold qtj mxR
 simp
def MxL (base:Int) (bt:Array (Int×Int)) (g:Nat) (w:World) (iv:Value) (wr:World):Prop:=∃ (k:Nat) (dk:Array (Int×Int)),iv=.int .i64 (k:Int)∧k≤bt.size∧dk.size=bt.size∧(∀ j,j < k→dk[j]! = mxR base bt[j]!)∧(∀ j,k≤j→dk[j]! = bt[j]!)∧SrtK encR 2 w g 0 dk wr
theorem betL_ne (lo hi:Int):∀ (l:List Int) (at':Int),betL lo hi at' l≠[]
 | [],_=>by rw [betL];simp
 | t :: l,at'=>by
   rw [betL]
   split
   ·simp
   ·exact betL_ne lo hi l at'
end Go.Proofs.YtlkmagmdhopcjaaGreat
namespace Go.Proofs.YtlkmagmdhopcjaaGreat
open Go.RowKit Go.Sort Go.Lib
set_option maxRecDepth 100000
theorem RdI_R.next {w w':World} {A:Option Addr} {d:Array Int} (h:RdI_R w.heap.size w A d) (hb:Below w.heap.size w w'):RdI_R w'.heap.size w' A d:=(h.below hb).mono hb.size
theorem three_blk (w:World) (o o' o'':Obj):(((w.alloc o).alloc o').alloc o'').heap[w.heap.size]?=some o∧(((w.alloc o).alloc o').alloc o'').heap[w.heap.size + 1]?=some o'∧(((w.alloc o).alloc o').alloc o'').heap[w.heap.size + 2]?=some o'' :=
 ⟨qcj (qoz w o o').1,qcj (qoz w o o').2,by rw [show w.heap.size + 2=((w.alloc o).alloc o').heap.size by simp];exact heap_alloc_new _ _⟩
theorem blk1 {W:World} {g:Nat} {a:Value} {T:TypeId} (h:W.heap[g]?=some (.cells #[a] T (0,0))):W.cell? ⟨g,0,none⟩=some a:=by rw [cell_of_row W g 0 _ _ (0,0) h];rfl
def qnn (ids:Array Int) (l:List (Int×Int)):List (Int×Int):=(l.filter (qfq ids)).map fun a=>(a.1,a.1)
def StL (ids:Array Int) (ats:Array (Int×Int)) (w:World) (ov iv:Value) (wr:World):Prop:=∃ (j:Nat) (out:Array (Int×Int)),iv=.int .i64 (j:Int)∧j≤ats.size∧out.size≤j∧qnn ids ats.toList=out.toList ++ qnn ids (ats.toList.drop j)∧wr.ownsRow w.heap.size 124 2 ov out.size (flatK encR 2 out).toList∧Below w.heap.size w wr
end Go.Proofs.YtlkmagmdhopcjaaGreat
namespace Go.Proofs.YtlkmagmdhopcjaaGreat
open Go.RowKit Go.Sort Go.Lib
set_option maxRecDepth 100000
theorem qny (d:Array Int) (hs:∀ i j,i≤j→j < d.size→d[i]!≤d[j]!):∀ m,m≤d.size→(compactUpTo d m).Pairwise (· < ·)∧∀ x,x ∈ compactUpTo d m↔∃ j,j < m∧d[j]! = x
 | 0,_=>by simp [compactUpTo]
 | m + 1,hm=>by
   obtain ⟨h1,h2⟩:=qny d hs m (by omega)
   rw [compactUpTo_succ]
   cases hk:keeps d m
   ·have hk':¬ (m=0∨d[m]!≠d[m - 1]!):=by unfold keeps at hk;simpa using hk
    have hm0:m≠0:=fun h=>hk' (Or.inl h)
    have heq:d[m]! = d[m - 1]!:=Classical.byContradiction fun h=>hk' (Or.inr h)
    refine ⟨by simpa using h1,fun x=>?_⟩
    simp only [Bool.false_eq_true,if_false,List.append_nil]
    rw [h2]
    constructor
    ·rintro ⟨j,hj,e⟩
     exact ⟨j,by omega,e⟩
    ·rintro ⟨j,hj,e⟩
     by_cases hjm:j=m
     ·subst hjm
      exact ⟨j - 1,by omega,by rw [←heq];exact e⟩
     ·exact ⟨j,by omega,e⟩
   ·have hk':m=0∨d[m]!≠d[m - 1]!:=by unfold keeps at hk;simpa using hk
    refine ⟨?_,fun x=>?_⟩
    ·simp only [if_true]
     refine List.pairwise_append.2 ⟨h1,by simp,fun x hx y hy=>?_⟩
     obtain ⟨j,hj,rfl⟩:=(h2 x).1 hx
     obtain rfl:y=d[m]!:=by simpa using hy
     have a1:=hs j (m - 1) (by omega) (by omega)
     have a2:=hs (m - 1) m (by omega) (by omega)
     rcases hk' with h0 | h0
     ·omega
     ·omega
    ·simp only [if_true,List.mem_append,List.mem_singleton]
     rw [h2]
     constructor
     ·rintro (⟨j,hj,e⟩ | rfl)
      ·exact ⟨j,by omega,e⟩
      ·exact ⟨m,by omega,rfl⟩
     ·rintro ⟨j,hj,e⟩
      by_cases hjm:j=m
      ·subst hjm;exact Or.inr e.symm
      ·exact Or.inl ⟨j,by omega,e⟩
theorem qno (l:List Int):(compact (l.mergeSort fun x y=>decide (x≤y))).Pairwise (· < ·)∧∀ x,x ∈ compact (l.mergeSort fun x y=>decide (x≤y))↔x ∈ l:=by
 have hp:=List.mergeSort_perm l (fun x y=>decide (x≤y))
 have hs:(l.mergeSort fun x y=>decide (x≤y)).Pairwise (·≤·):=by
  have:=List.pairwise_mergeSort (le:=fun x y:Int=>decide (x≤y)) (fun a b c h1 h2=>by simp at *;omega) (fun a b=>by simp;omega) l
  exact this.imp (fun h=>by simpa using h)
 generalize (l.mergeSort fun x y=>decide (x≤y))=s at hp hs
 have hg:∀ i j,i≤j→j < s.toArray.size→s.toArray[i]!≤s.toArray[j]!:=fun i j hij hj=>by
  have hj':j < s.length:=by simpa using hj
  rcases Nat.eq_or_lt_of_le hij with rfl | hlt
  ·exact Int.le_refl _
  ·have:=List.pairwise_iff_getElem.1 hs i j (by omega) hj' hlt
   rw [getElem!_pos _ i (by simp;omega),getElem!_pos _ j hj]
   simpa using this
 obtain ⟨h1,h2⟩:=qny s.toArray hg s.length (by simp)
 refine ⟨h1,fun x=>?_⟩
 have h3:x ∈ compact s↔∃ j,j < s.length∧s.toArray[j]! = x:=h2 x
 rw [h3,←hp.mem_iff,List.mem_iff_getElem]
 constructor
 ·rintro ⟨j,hj,e⟩
  exact ⟨j,hj,by rw [getElem!_pos _ j (by simpa using hj)] at e;simpa using e⟩
 ·rintro ⟨j,hj,e⟩
  exact ⟨j,hj,by rw [getElem!_pos _ j (by simpa using hj)];simpa using e⟩
structure OpenR (k:KN) (s:Array Int):Prop where
 up:s.toList.Pairwise (· < ·)
 mem:∀ x,x ∈ s.toList↔chkB k=true∧x ∈ k.ats.toList.map (·.2)
theorem up_ext:∀ {a b:List Int},a.Pairwise (· < ·)→b.Pairwise (· < ·)→(∀ x,x ∈ a↔x ∈ b)→a=b
 | [],[],_,_,_=>rfl
 | [],y :: b,_,_,h=>absurd ((h y).2 (by simp)) (by simp)
 | x :: a,[],_,_,h=>absurd ((h x).1 (by simp)) (by simp)
 | x :: a,y :: b,h1,h2,h=>by
   obtain ⟨p1,p2⟩:=List.pairwise_cons.1 h1
   obtain ⟨q1,q2⟩:=List.pairwise_cons.1 h2
   have hxy:x=y:=by
    rcases List.mem_cons.1 ((h x).1 (by simp)) with e | hx
    ·exact e
    ·rcases List.mem_cons.1 ((h y).2 (by simp)) with e | hy
     ·exact e.symm
     ·have:=q1 x hx;have:=p1 y hy;omega
   subst hxy
   rw [up_ext p2 q2 (fun z=>⟨fun hz=>?_,fun hz=>?_⟩)]
   ·rcases List.mem_cons.1 ((h z).1 (by simp [hz])) with e | hz'
    ·have:=p1 z hz;omega
    ·exact hz'
   ·rcases List.mem_cons.1 ((h z).2 (by simp [hz])) with e | hz'
    ·have:=q1 z hz;omega
    ·exact hz'
theorem OpenR.uniq {k:KN} {s t:Array Int} (h:OpenR k s) (g:OpenR k t):s=t :=
 Array.toList_inj.1 (up_ext h.up g.up (fun x=>(h.mem x).trans (g.mem x).symm))
theorem own_ints {w:World} {base:Nat} {e:TypeId} {v:Value} {l:List Int} (h:w.ownsRow base e 1 v l.length (l.map (Value.int .i64))) (hn:v≠.slice none 0 0):∃ g cap,v=.slice (some ⟨g,0,none⟩) l.length cap∧l.length≤cap∧base≤g∧g < w.heap.size∧Holds (Value.int .i64) w g 0 l.toArray:=by
 obtain ⟨_,⟨h1,_⟩ | ⟨g,cap,cur,hv,hb,hh,hnc,hmx,hcur,htk⟩⟩:=h
 ·exact absurd h1 hn
 ·refine ⟨g,cap,hv,hnc,hb,qdf hh,fun j hj=>?_⟩
  have hj':j < l.length:=by simpa using hj
  rw [Nat.zero_add]
  refine ⟨?_,by simp [World.frozen?,hh]⟩
  rw [cell_of_row w g j _ _ (0,0) hh]
  have e1:cur.toList[j]?=(l.map (Value.int .i64))[j]?:=by rw [←htk,List.getElem?_take_of_lt (by omega)]
  rw [Array.getElem?_toList] at e1
  rw [e1]
  simp [hj']
theorem qkp {w w1:World} {B g off:Nat} (hb:Below B w w1) (hz:B≤w1.heap.size) (hg:B≤g) (n:Nat) (d:Array Int) (os:Array Obj):Below B w (grow (putRow (Value.int .i64) (Sort.ahead w1 n) g off d) os):=by
 have hsz:(putRow (Value.int .i64) (Sort.ahead w1 n) g off d).heap.size=w1.heap.size:=size_putRow _ _ _ _ _
 refine ⟨hb.os,hb.tape,hb.output,?_,fun i hi=>?_⟩
 ·show _≤((putRow (Value.int .i64) (Sort.ahead w1 n) g off d).heap ++ os).size
  rw [Array.size_append,hsz]
  have:=hb.size
  omega
 ·have h1:((putRow (Value.int .i64) (Sort.ahead w1 n) g off d).heap)[i]?=w1.heap[i]?:=by
   show ((Sort.ahead w1 n).heap.modify g _)[i]?=_
   rw [Array.getElem?_modify,if_neg (by omega)]
   rfl
  show ((putRow (Value.int .i64) (Sort.ahead w1 n) g off d).heap ++ os)[i]?=_
  rw [Array.getElem?_append_left (by rw [hsz];omega),h1]
  exact hb.block i hi
theorem rdI_put {w:World} {g n:Nat} {l:List Int} {z:List Int} {s:Array Int} (hs:Holds (Value.int .i64) (Sort.ahead w n) g 0 s) (hsz:(l ++ z).length=s.size) (hg:g < w.heap.size):RdI_R (putRow (Value.int .i64) (Sort.ahead w n) g 0 (l ++ z).toArray).heap.size (putRow (Value.int .i64) (Sort.ahead w n) g 0 (l ++ z).toArray) (some ⟨g,0,none⟩) l.toArray:=fun _=>by
 have hp:=holds_putRow (Value.int .i64) (Sort.ahead w n) g 0 s (l ++ z).toArray hs (by simpa using hsz)
 refine ⟨g,0,rfl,by rw [size_putRow];exact hg,fun t ht=>?_⟩
 have ht':t < l.length:=by simpa using ht
 have hlt:t < (l ++ z).toArray.size:=by simp;omega
 rw [(hp t hlt).1,getElem!_pos _ t hlt,getElem!_pos _ t ht]
 simp [List.getElem_append_left ht']
theorem holds_pre {w:World} {g n:Nat} {l:List Int} {z:List Int} {s:Array Int} (hs:Holds (Value.int .i64) (Sort.ahead w n) g 0 s) (hsz:(l ++ z).length=s.size):Holds (Value.int .i64) (putRow (Value.int .i64) (Sort.ahead w n) g 0 (l ++ z).toArray) g 0 l.toArray:=fun t ht=>by
 have hp:=holds_putRow (Value.int .i64) (Sort.ahead w n) g 0 s (l ++ z).toArray hs (by simpa using hsz)
 have ht':t < l.length:=by simpa using ht
 have hlt:t < (l ++ z).toArray.size:=by simp;omega
 refine ⟨?_,(hp t hlt).2⟩
 rw [(hp t hlt).1,getElem!_pos _ t hlt,getElem!_pos _ t ht]
 simp [List.getElem_append_left ht']
def OwnB (B:Nat) (w:World) (A:Option Addr) (c:Nat) (s:Array Int):Prop:=s=#[]∨∃ g,A=some ⟨g,0,none⟩∧B≤g∧g < w.heap.size∧Holds (Value.int .i64) w g 0 s∧s.size≤c
set_option maxHeartbeats 8000000 in
theorem qwt (v:Value) (k:KN) (w:World) (h:KnV w v k) (s1:k.ats.size≤100000) :
 Calls Tryz.prog 172 #[v] w fun e w'=>(∃ A s c,e=.returned (.slice A s.size c)∧OpenR k s∧RdI_R w'.heap.size w' A s∧s.size≤k.ats.size∧OwnB w.heap.size w' A c s)∧Below w.heap.size w w':=by
 obtain ⟨i0,hi0,hz0,hz1,hz2⟩:=info_parts qdu
 obtain ⟨base,rs,ats⟩:=k
 obtain ⟨A1,c1,A2,c2,rfl,h1,h2,_,_⟩:=h
 have HC:Hid (∀ W,Below w.heap.size w W→Calls Tryz.prog 67 #[.agg #[.int .i64 base,.slice A1 rs.size c1,.slice A2 ats.size c2]] W fun e w'=>e=.returned (.int .i64 (chkE ⟨base,rs,ats⟩))∧Below W.heap.size W w'):=fun W hb=>qge base rs ats A1 c1 A2 c2 W ((h1.below hb).mono hb.size) ((h2.below hb).mono hb.size)
 have q0:=qoy ⟨base,rs,ats⟩
 have H2:=hI h2
 simp only at s1
 clear h1 h2
 generalize chkE ⟨base,rs,ats⟩=ce at q0 HC
 cases hc:chkB ⟨base,rs,ats⟩
 ·have HN:Hid (OpenR ⟨base,rs,ats⟩ #[]):=⟨by simp,fun x=>by rw [hc];simp⟩
  rw [hc] at q0
  clear hc
  go_enter Tryz.func172,Tryz.ntmps172
  go_wp2_with fail
  refine (HC.out _ (bel1 w _)).mono ?_
  rintro e w1 ⟨rfl,hb1⟩
  have HB1:=hI (qaa (bel1 w _) hb1)
  clear hb1
  go_wp2
  refine bodyPost_ret (v:=.slice none 0 0) (by simp [results,Tryz.results172,go_sem]) rfl ⟨⟨none,#[],0,rfl,HN.out,RdI_R.none_,Nat.zero_le _,Or.inl rfl⟩,HB1.out⟩
 ·have HCk:=hI hc
  rw [hc] at q0
  clear hc
  go_enter Tryz.func172,Tryz.ntmps172
  go_wp2_with fail
  refine (HC.out _ (bel1 w _)).mono ?_
  rintro e w1 ⟨rfl,hb1⟩
  obtain ⟨u0,u1,u2⟩:=box3 hb1
  have HB1:=hI (qaa (bel1 w _) hb1)
  clear hb1 HC
  go_wp2
  go_loopw [3,12] (fun ov iv wr=>∃ (j:Nat) (l:List Int),iv=.int .i64 (j:Int)∧j≤ats.size∧l.length≤j∧ats.toList.map (·.2)=l ++ (ats.toList.drop j).map (·.2)∧wr.ownsRow w1.heap.size 3 1 ov l.length (l.map (Value.int .i64))∧Below w1.heap.size w1 wr) (fun _ i _=>ats.size - (intOf i).toNat)
  case atStart=>exact ⟨0,[],rfl,Nat.zero_le _,Nat.le_refl _,rfl,World.ownsRow_nil _ _ _ _,Below.refl _ _⟩
  case round =>
   clear u0 u1 u2
   obtain ⟨j,l,rfl,hj,hl,he,hown,hB⟩:=hrel
   have HE:=hI he
   have HB:=hI hB
   clear he hB
   by_cases hlt:j < ats.size
   ·have jz:(j:Int) < (ats.size:Int):=by omega
    obtain ⟨b,off,rfl,hbl,f⟩:=(H2.out.below (qaa HB1.out HB.out)).at_ hlt
    have e0:=f 0 (by omega)
    have e1:=f 1 (by omega)
    have HD:=hI (qgd ats j hlt)
    generalize ats[j]! = x at e0 e1 HD
    simp only [Nat.add_zero,qaf,List.getElem!_cons_zero,List.getElem!_cons_succ] at e0 e1
    clear f
    have HN:Hid (ats.toList.map (·.2)=(l ++ [x.2]) ++ (ats.toList.drop (j + 1)).map (·.2)):=by show _=_;rw [HE.out,HD.out];simp
    have hz:=HB.out.size
    go_wp2_with (at_builtin;refine wpList_append_own _ rfl _ _ 26 rfl w1.heap.size 3 i0 (.int .i64 0) 1 8 Tryz.underlying26 hi0 hz0 hz1 hz2 rfl (by decide) _ _ _ rfl ((hown.alloc _).alloc _) ⟨wr.heap.size + 1,0,none⟩ 1 1 [.int .i64 x.2] rfl rfl (fun j u hu=>by
     match j,hu with
     | 0,hu=>simp at hu;subst hu;rw [show (⟨wr.heap.size + 1,0,none⟩:Addr).add 0=⟨(wr.alloc (.cells #[.int .i64 x.1,.int .i64 x.2] 29)).heap.size,0,none⟩ by simp [Addr.add]];exact qbb _ _ _ 0
     | j + 1,hu=>simp at hu) (by simp [Value.oneCell']) (by unfold maxLen;omega) (by omega) (by simp;omega) ?_;intro v' w5 hown' hgrow _)
    go_roundw
    case rel=>exact ⟨j + 1,l ++ [x.2],by go_num,by omega,by simp;omega,HN.out,(by simpa using hown'),qvq HB.out hz hown hgrow⟩
    case measure=>simp [intOf];omega
   ·have hlt':decide ((j:Int) < (ats.size:Int))=false:=decide_eq_false (by omega)
    have HL:Hid (ats.toList.map (·.2)=l):=by
     show _=_
     rw [HE.out,List.drop_of_length_le (by simp;omega)];simp
    have HOp:Hid (∀ s:List Int,s.Pairwise (· < ·)→(∀ x,x ∈ s↔x ∈ l)→OpenR ⟨base,rs,ats⟩ s.toArray):=fun s p1 p2=>⟨by simpa using p1,fun x=>by rw [HCk.out];simp only [true_and];rw [HL.out];simpa using p2 x⟩
    rcases l with _ | ⟨y,l⟩
    ·obtain ⟨Av,cv,rfl,_⟩:=qmq hown
     have HN:Hid (OpenR ⟨base,rs,ats⟩ (#[]:Array Int)):=HOp.out [] (by simp) (fun x=>Iff.rfl)
     clear hown HOp HL HE
     go_wp2_with fail
     refine (Tryz.slices_Sort_int_none Av cv wr).mono ?_
     rintro e w2 ⟨rfl,rfl⟩
     go_wp2_with fail
     refine (Tryz.slices_Compact_int_empty Av cv w2).mono ?_
     rintro e w3 ⟨rfl,rfl⟩
     go_wp2
     go_ret
     exact ⟨⟨Av,#[],cv,rfl,HN.out,RdI_R.none_,Nat.zero_le _,Or.inl rfl⟩,qaa HB1.out HB.out⟩
    ·obtain ⟨L,hL⟩:∃ L,y :: l=L:=⟨_,rfl⟩
     have hL0:0 < L.length:=by rw [←hL];simp
     have hl2:L.length≤100000:=by rw [←hL];omega
     have hl3:L.length≤ats.size:=by rw [←hL];omega
     rw [hL] at hown HOp HL
     clear hL HE
     have hn:∀ v,wr.ownsRow w1.heap.size 3 1 v L.length (L.map (Value.int .i64))→v≠.slice none 0 0:=fun v h e=>by
      subst e
      obtain ⟨_,⟨_,h0⟩ | ⟨g,cap,cur,hv,_⟩⟩:=h
      ·omega
      ·cases hv
     obtain ⟨g,cap,rfl,hnc,hgB,hgl,hH⟩:=own_ints hown (hn _ hown)
     have hz:=HB.out.size
     have HSo:=hI (Tryz.slices_Sort_int g 0 cap L wr hH hgl (by omega))
     have HH:=hI hH
     obtain ⟨cs1,cs2⟩:=qno L
     have hls:(L.mergeSort fun x y=>decide (x≤y)).length=L.length:=List.length_mergeSort ..
     obtain ⟨srt,hsrt⟩:∃ srt,(L.mergeSort fun x y=>decide (x≤y))=srt:=⟨_,rfl⟩
     rw [hsrt] at HSo cs1 cs2 hls
     have HN:Hid (OpenR ⟨base,rs,ats⟩ (compact srt).toArray):=HOp.out _ cs1 cs2
     have HLs:=hI hls
     clear hown hn hH HOp HL cs1 cs2 hls hsrt
     go_wp2_with fail
     refine HSo.out.mono ?_
     rintro e w2 ⟨rfl,n,os,hw2⟩
     have hb2:Below w1.heap.size w1 w2:=by rw [hw2];exact qkp HB.out hz hgB n _ os
     have hg2:g < w2.heap.size:=by
      rw [hw2]
      show g < ((putRow (Value.int .i64) (Sort.ahead wr n) g 0 srt.toArray).heap ++ os).size
      rw [Array.size_append,size_putRow]
      show g < wr.heap.size + _
      omega
     have hH2:Holds (Value.int .i64) w2 g 0 srt.toArray:=by
      rw [hw2]
      refine holds_grow _ _ _ _ _ _ (by rw [size_putRow];exact hgl) (holds_putRow _ (Sort.ahead wr n) g 0 L.toArray srt.toArray (holds_ahead _ _ _ _ _ _ HH.out) (by simpa using HLs.out))
     have hcm:=Tryz.slices_Compact_int g 0 cap srt w2 hH2 (by have:=HLs.out;omega) (by have:=HLs.out;omega)
     rw [HLs.out] at hcm
     have HCm:=hI hcm
     have HH2:=hI hH2
     have HB2:=hI hb2
     clear hw2 hH2 hcm hb2
     go_wp2_with fail
     refine HCm.out.mono ?_
     rintro e w3 ⟨rfl,q,hw3⟩
     have hlen:=compact_length_le srt
     have HR3:Hid (RdI_R w3.heap.size w3 (some ⟨g,0,none⟩) (compact srt).toArray∧Below w1.heap.size w1 w3∧g < w3.heap.size∧Holds (Value.int .i64) w3 g 0 (compact srt).toArray):=by
      have e1:(compact srt ++ List.replicate (L.length - (compact srt).length) 0).length=srt.toArray.size:=by simp [HLs.out];have:=HLs.out;omega
      rw [hw3]
      refine ⟨rdI_put (holds_ahead _ _ _ _ _ _ HH2.out) e1 hg2,?_,by rw [size_putRow];exact hg2,holds_pre (holds_ahead _ _ _ _ _ _ HH2.out) e1⟩
      have:=qkp HB2.out HB2.out.size hgB q (compact srt ++ List.replicate (L.length - (compact srt).length) 0).toArray (g:=g) (off:=0) #[]
      rwa [grow_empty] at this
     clear hw3
     go_wp2
     go_ret
     have hbz:=HB1.out.size
     refine ⟨⟨some ⟨g,0,none⟩,(compact srt).toArray,cap,?_,HN.out,HR3.out.1,?_,Or.inr ⟨g,rfl,by omega,HR3.out.2.2.1,HR3.out.2.2.2,?_⟩⟩,qaa HB1.out HR3.out.2.1⟩
     ·simp
     ·have:=HLs.out
      show (compact srt).toArray.size≤ats.size
      simp
      omega
     ·have:=HLs.out
      simp
      omega
end Go.Proofs.YtlkmagmdhopcjaaGreat
namespace Go.Proofs.YtlkmagmdhopcjaaGreat
open Go.RowKit Go.Sort Go.Lib
set_option maxRecDepth 100000
theorem qur {d:Array (Int×Int)} (l:List (Int×Int)) (h:d=l.toArray) (hp:l.Pairwise (fun x y=>x.1 < y.1)):srtA d=l.toArray:=by
 subst h
 exact qrc (by simpa using hp)
theorem flat_of {enc:Int×Int→List Value} (hk:∀ x,(enc x).length=2) {d:Array (Int×Int)} {cs:Array Value} (h:cs=(d.toList.flatMap enc).toArray):cs=flatK enc 2 d:=by
 apply Array.toList_inj.1
 rw [qcm hk,h]
theorem RdK.lit_K {enc:Int×Int→List Value} (hk:∀ x,(enc x).length=2) (w:World) (d:Array (Int×Int)) (cs:Array Value) (e:TypeId) (h:cs=(d.toList.flatMap enc).toArray):RdK enc 2 (w.alloc (.cells cs e)).heap.size (w.alloc (.cells cs e)) (some ⟨w.heap.size,0,none⟩) d:=(RdK.new w enc 2 d e cs (flat_of hk h)).mono (by simp)
theorem RdI_R.lit_K (w:World) (d:Array Int) (cs:Array Value) (e:TypeId) (h:cs=d.map qcv):RdI_R (w.alloc (.cells cs e)).heap.size (w.alloc (.cells cs e)) (some ⟨w.heap.size,0,none⟩) d:=(RdI_R.new w d e cs h).mono (by simp)
end Go.Proofs.YtlkmagmdhopcjaaGreat
namespace Go.Proofs.YtlkmagmdhopcjaaGreat
open Go.RowKit Go.Sort Go.Lib
structure InsU (d:Array (Int×Int)) (m:Nat) (o:Array (Int×Int)):Prop where
 up:o.toList.Pairwise fun x y=>x.1≤y.1
 mem:∀ x,x ∈ o.toList↔x ∈ d.toList.take m∧x.1≤x.2
 sz:o.size≤m
theorem InsU.nil (d:Array (Int×Int)):InsU d 0 #[]:=⟨by simp,by simp,Nat.le_refl _⟩
theorem qln {d:Array (Int×Int)} {m:Nat} (hm:m < d.size):d.toList.take (m + 1)=d.toList.take m ++ [d[m]!]:=by
 rw [List.take_add_one]
 simp [hm]
theorem InsU.skip {d o:Array (Int×Int)} {m:Nat} (h:InsU d m o) (hm:m < d.size) (hx:d[m]!.2 < d[m]!.1):InsU d (m + 1) o:=by
 refine ⟨h.up,fun x=>?_,by have:=h.sz;omega⟩
 rw [h.mem,qln hm,List.mem_append,List.mem_singleton]
 constructor
 ·rintro ⟨h1,h2⟩
  exact ⟨Or.inl h1,h2⟩
 ·rintro ⟨h1 | rfl,h2⟩
  ·exact ⟨h1,h2⟩
  ·omega
theorem InsU.put {d o:Array (Int×Int)} {m k:Nat} (h:InsU d m o) (hm:m < d.size) (hx:d[m]!.1≤d[m]!.2) (hk:k≤o.size) (h1:∀ j,j < k→o[j]!.1≤d[m]!.1) (h2:k < o.size→d[m]!.1 < o[k]!.1) :
 InsU d (m + 1) (#[] ++ (o.toList.take k).toArray ++ #[d[m]!] ++ (o.toList.drop k).toArray):=by
 have e:(#[] ++ (o.toList.take k).toArray ++ #[d[m]!] ++ (o.toList.drop k).toArray).toList=o.toList.take k ++ d[m]! :: o.toList.drop k:=by simp
 refine ⟨?_,fun x=>?_,?_⟩
 ·rw [e]
  have hp:=h.up
  rw [←List.take_append_drop k o.toList] at hp
  obtain ⟨p1,p2,p3⟩:=List.pairwise_append.1 hp
  have t1:∀ y ∈ o.toList.take k,y.1≤d[m]!.1:=fun y hy=>by
   obtain ⟨j,hj,rfl⟩:=List.mem_take_iff_getElem.1 hy
   have hj':j < o.size:=by simp at hj;omega
   have:=h1 j (by simp at hj;omega)
   rw [getElem!_pos o j hj'] at this
   simpa using this
  have t2:∀ y ∈ o.toList.drop k,d[m]!.1≤y.1:=fun y hy=>by
   rcases Nat.lt_or_ge k o.size with hlt | hge
   ·have hk':k < o.toList.length:=by simpa using hlt
    rw [List.drop_eq_getElem_cons hk'] at hy p2
    have hk2:=h2 hlt
    rw [getElem!_pos o k (by omega)] at hk2
    rcases List.mem_cons.1 hy with rfl | hy
    ·exact Int.le_of_lt (by simpa using hk2)
    ·have a1:=(List.pairwise_cons.1 p2).1 y hy
     have a2:d[m]!.1 < (o.toList[k]).1:=by simpa using hk2
     omega
   ·rw [List.drop_of_length_le (by simpa using hge)] at hy
    cases hy
  refine List.pairwise_append.2 ⟨p1,List.pairwise_cons.2 ⟨t2,p2⟩,fun y hy z hz=>?_⟩
  rcases List.mem_cons.1 hz with rfl | hz
  ·exact t1 y hy
  ·exact p3 y hy z hz
 ·rw [e,qln hm,List.mem_append,List.mem_cons,List.mem_append,List.mem_singleton]
  have hs:x ∈ o.toList↔x ∈ o.toList.take k∨x ∈ o.toList.drop k:=by rw [←List.mem_append,List.take_append_drop]
  have hm':=h.mem x
  rw [hs] at hm'
  constructor
  ·rintro (a | rfl | a)
   ·exact ⟨Or.inl (hm'.1 (Or.inl a)).1,(hm'.1 (Or.inl a)).2⟩
   ·exact ⟨Or.inr rfl,hx⟩
   ·exact ⟨Or.inl (hm'.1 (Or.inr a)).1,(hm'.1 (Or.inr a)).2⟩
  ·rintro ⟨a | rfl,b⟩
   ·rcases hm'.2 ⟨a,b⟩ with c | c
    ·exact Or.inl c
    ·exact Or.inr (Or.inr c)
   ·exact Or.inr (Or.inl rfl)
 ·have:=h.sz
  simp
  omega
end Go.Proofs.YtlkmagmdhopcjaaGreat
namespace Go.Proofs.YtlkmagmdhopcjaaGreat
open Go.RowKit Go.Sort Go.Lib
def KnG (B:Nat) (w:World) (v:Value) (k:KN):Prop:=∃ A1 c1 A2 c2,v=.agg #[.int .i64 k.base,.slice A1 k.rs.size c1,.slice A2 k.ats.size c2]∧RdK encR 2 w.heap.size w A1 k.rs∧RdK qaf 2 w.heap.size w A2 k.ats∧(A1=none→c1=0)∧(A2=none→c2=0)∧(0 < k.rs.size→∀ g off,A1=some ⟨g,off,none⟩→B≤g)∧(∀ g off,A2=some ⟨g,off,none⟩→B≤g)
theorem KnG.knV {B:Nat} {w:World} {v:Value} {k:KN} (h:KnG B w v k):KnV w v k:=by
 obtain ⟨A1,c1,A2,c2,e,h1,h2,h3,h4,_,_⟩:=h
 exact ⟨A1,c1,A2,c2,e,h1,h2,h3,h4⟩
end Go.Proofs.YtlkmagmdhopcjaaGreat
namespace Go.Proofs.YtlkmagmdhopcjaaGreat
open Go.RowKit Go.Sort Go.Lib
set_option maxRecDepth 100000
def IdxF (p:Int→Bool) (d:Array Int) (e:Ending):Prop:=∃ r:Int,e=.returned (.int .i64 r)∧((r = -1∧∀ j,j < d.size→p d[j]! = false)∨∃ k0:Nat,r=(k0:Int)∧k0 < d.size∧p d[k0]! = true∧∀ j,j < k0→p d[j]! = false)
theorem qpb {w:World} {blk off:Nat} {d:Array Int} (h:HoldsK qdx 1 w blk off d) {i:Nat} (hi:i < d.size):w.cell? ⟨blk,off + i,none⟩=some (.int .i64 d[i]!)∧w.frozen? ⟨blk,off + i,none⟩=false:=by
 have:=h.cell (i:=i) (c:=0) hi (by decide)
 simp only [Nat.mul_one,Nat.add_zero,qdx,List.getElem!_cons_zero] at this
 exact this
set_option maxHeartbeats 4000000 in
theorem intIdx (p:Int→Bool) (g:Nat) (lb:Array Value) (eg:∀ args w,(callFunc g args).run Tryz.prog w=.ok (.enter g args) w) (blk off cap:Nat) (d:Array Int) (w:World)
 (hp:∀ W x,w.grownBy W (some blk)→Calls Tryz.prog g (#[.int .i64 x] ++ lb) W fun e w'=>e=.returned (.bool (p x))∧Below W.heap.size W w')
 (hH:HoldsK qdx 1 w blk off d) (hlt:blk < w.heap.size) (hsz:d.size≤1000000) :
 Calls Tryz.prog 219 #[.slice (some ⟨blk,off,none⟩) d.size cap,.func (.func g) #[] lb] w fun e w'=>IdxF p d e∧Below w.heap.size w w':=by
 have HH:=hI hH
 have HP:=hI hp
 clear hH hp
 go_enter Tryz.func219,Tryz.ntmps219
 go_wp2
 go_loopw [8] (fun i wr=>∃ k:Nat,i=.int .i64 k∧k≤d.size∧Hid (∀ j,j < k→p d[j]! = false)∧Hid (Below w.heap.size w wr)) (fun i _=>d.size - (intOf i).toNat)
 case atStart=>exact ⟨0,rfl,Nat.zero_le _,hI (fun j hj=>absurd hj (by omega)),hI (Below.refl _ _)⟩
 case round =>
  obtain ⟨k,rfl,hk,hall,HB⟩:=hrel
  by_cases hlt2:k < d.size
  ·have kz:(k:Int) < (d.size:Int):=by omega
   have e0:=(HB.out.cell (p:=⟨blk,off + k,none⟩) hlt).trans (qpb HH.out hlt2).1
   have HC:=hI (HP.out wr d[k]! (qba HB.out _))
   obtain ⟨x,hx⟩:∃ x,d[k]! = x:=⟨_,rfl⟩
   obtain ⟨q,hq⟩:∃ q,p d[k]! = q:=⟨_,rfl⟩
   rw [hq] at HC
   have HQ:=hI hq
   rw [hx] at HC e0
   clear hx hq
   cases q
   ·go_wp2_with fail
    refine HC.out.mono ?_
    rintro e w' ⟨rfl,hb'⟩
    have HB2:=hI (qaa HB.out hb')
    clear hb'
    go_wp2
    go_roundw
    case rel =>
     refine ⟨k + 1,by go_num,by omega,hI (fun j hj=>?_),HB2⟩
     rcases Nat.lt_or_ge j k with h | h
     ·exact hall.out j h
     ·obtain rfl:j=k:=by omega
      exact HQ.out
    case measure=>simp [intOf];omega
   ·go_wp2_with fail
    refine HC.out.mono ?_
    rintro e w' ⟨rfl,hb'⟩
    have HB2:=hI (qaa HB.out hb')
    clear hb'
    go_wp2
    go_ret
    exact ⟨⟨k,rfl,Or.inr ⟨k,rfl,hlt2,HQ.out,hall.out⟩⟩,HB2.out⟩
  ·have hlt':decide ((k:Int) < (d.size:Int))=false:=by simp;omega
   go_wp2
   go_ret
   exact ⟨⟨-1,rfl,Or.inl ⟨rfl,fun j hj=>hall.out j (by omega)⟩⟩,HB.out⟩
set_option maxHeartbeats 8000000 in
theorem intDel (p:Int→Bool) (g:Nat) (lb:Array Value) (eg:∀ args w,(callFunc g args).run Tryz.prog w=.ok (.enter g args) w) (blk off cap:Nat) (d:Array Int) (w:World)
 (hp:∀ W x,w.grownBy W (some blk)→Calls Tryz.prog g (#[.int .i64 x] ++ lb) W fun e w'=>e=.returned (.bool (p x))∧Below W.heap.size W w')
 (hH:HoldsK qdx 1 w blk off d) (hlt:blk < w.heap.size) (hsz:d.size≤1000000) (hcap:d.size≤cap) :
 Calls Tryz.prog 171 #[.slice (some ⟨blk,off,none⟩) d.size cap,.func (.func g) #[] lb] w fun e w'=>e=.returned (.slice (some ⟨blk,off,none⟩) (d.toList.filter fun x=>!p x).toArray.size cap)∧w.grownBy w' (some blk)∧RdK qdx 1 w'.heap.size w' (some ⟨blk,off,none⟩) (d.toList.filter fun x=>!p x).toArray:=by
 have hIF:=intIdx p g lb eg blk off cap d w hp hH hlt hsz
 obtain ⟨kp,HK⟩:∃ kp:Nat→Bool,Hid (kp=fun j=>!p d[j]!):=⟨_,rfl⟩
 have hfil:(d.toList.filter fun x=>!p x)=keptUpTo kp d d.size:=by rw [HK.out];exact (keptUpTo_filter (fun x=>!p x) d).symm
 rw [hfil]
 have HH:=hI hH
 have HP:=hI hp
 have HIF:=hI hIF
 clear hH hp hIF hfil
 go_enter Tryz.func171,Tryz.ntmps171
 go_wp2_with fail
 refine HIF.out.mono ?_
 rintro e w1 ⟨⟨r,rfl,⟨rfl,hall⟩ | ⟨k0,rfl,hk0,ht,hall⟩⟩,hb1⟩
 ·have hkeep:∀ j,j < d.size→kp j=true:=fun j hj=>by rw [HK.out];show (!p d[j]!)=true;rw [hall j hj];rfl
  have HE3:Hid (keptUpTo kp d d.size=d.toList):=by show _=_;rw [keptUpTo_all kp d _ hkeep,range_map_get]
  clear hall hkeep
  go_wp2
  go_ret
  rw [HE3.out]
  refine ⟨by simp,qba hb1 _,?_⟩
  have hhk:=qfy HH.out hlt hb1
  have:=RdK.of_holds hhk (B:=w1.heap.size) (Nat.lt_of_lt_of_le hlt hb1.size)
  simpa using this
 ·have hkeep:∀ j,j < k0→kp j=true:=fun j hj=>by rw [HK.out];show (!p d[j]!)=true;rw [hall j hj];rfl
  have hdrop:kp k0=false:=by rw [HK.out];show (!p d[k0]!)=false;rw [ht];rfl
  have hne1:((k0:Int) == -1)=false:=beq_eq_false_iff_ne.2 (by omega)
  have HST:=hI (KeptInv.start (d:=d) hkeep hdrop)
  clear hall ht hkeep hdrop
  have HB1:=hI hb1
  clear hb1
  go_wp2
  go_loopg [5,6] d.size (fun gg s5 s6 wr=>∃ (i j:Nat) (dk:Array Int),s5=.int .i64 i∧s6=.int .i64 j∧j≤d.size∧d.size - j≤gg∧Aside (SrtK qdx 1 w blk off dk wr)∧Aside (KeptInv kp d j i dk))
  case atStart=>exact ⟨k0,k0 + 1,d,rfl,by go_num,by omega,by omega,(SrtK.refl HH.out hlt).below HB1.out,HST.out⟩
  case round =>
   obtain ⟨i,j,dk,rfl,rfl,hjd,hgg,S2,I2⟩:=hrel
   have hij:=I2.out.lt
   have hds:=I2.out.size
   by_cases hlt2:j < d.size
   ·have hltz:(j:Int) < (d.size:Int):=by omega
    have cj0:=(qpb S2.out.holds (i:=j) (by omega)).1
    rw [I2.out.high j (by omega)] at cj0
    obtain ⟨u,hu⟩:∃ u,d[j]! = u:=⟨_,rfl⟩
    rw [hu] at cj0
    have C:Aside (d[j]! = u):=hu
    clear hu
    have HC:=hI (HP.out wr u S2.out.grown)
    have ilz:(i:Int) < (d.size:Int):=by omega
    cases hq:p u with
    | false =>
      rw [hq] at HC
      go_wp2_with fail
      refine HC.out.mono ?_
      rintro e w2 ⟨rfl,hb2⟩
      have hS:=S2.out.below hb2
      have HS:=hI hS
      have ci0:=qpb hS.holds (i:=i) (by omega)
      have cc0:=ci0.1
      have cf0:=ci0.2
      clear hS hb2 HC ci0
      generalize dk[i]! = old0 at cc0
      go_wp2
      go_roundg (d.size - (j + 1))
      case measure=>omega
      case rel =>
       refine ⟨i + 1,j + 1,dk.setIfInBounds i u,by go_num,by go_num,by omega,Nat.le_refl _,(show Aside _ from ?_),(show Aside _ from ?_)⟩
       ·have:=HS.out.put qoq (i:=i) (by omega) u
        show SrtK qdx 1 w blk off (dk.setIfInBounds i u) _
        simpa [qdx,World.setCells] using this
       ·have:=I2.out.keep hlt2 (by rw [HK.out];show (!p d[j]!)=true;rw [C.out,hq];rfl)
        rwa [C.out] at this
    | true =>
      rw [hq] at HC
      go_wp2_with fail
      refine HC.out.mono ?_
      rintro e w2 ⟨rfl,hb2⟩
      have HS:=hI (S2.out.below hb2)
      clear hb2 HC
      go_wp2
      go_roundg (d.size - (j + 1))
      case measure=>omega
      case rel=>exact ⟨i,j + 1,dk,rfl,by go_num,by omega,Nat.le_refl _,HS.out,I2.out.skip (by rw [HK.out];show (!p d[j]!)=false;rw [C.out,hq];rfl)⟩
   ·obtain rfl:j=d.size:=by omega
    have hltz:¬ (d.size:Int) < (d.size:Int):=by omega
    have ilz:(i:Int) < (d.size:Int):=by omega
    have icz:(i:Int)≤(cap:Int):=by omega
    have hnc:(cap=i)=False:=by simp;omega
    obtain ⟨zs,hzs,hcl⟩:∃ zs,zs=zs∧∀ ty,(Builtin.clear_ #[26] ty #[.slice (some ⟨blk,off + i,none⟩) (d.size - i) (cap - i)]).run Tryz.prog wr=.ok (.tuple #[]) (wr.setCells blk (off + i) zs):=by
     refine ⟨_,rfl,fun ty=>qev wr _ _ ty _ Tryz.underlying26 Tryz.zeroValue3 (qgw _ _ (by simp [Value.cells,Value.oneCell'])) blk (off + i) _ (by omega) (fun t ht=>?_) (fun t ht=>?_)⟩
     all_goals
      rw [qec] at ht
      have ht':t < (d.size - i) * 1:=ht
      have hb:=S2.out.holds (i + t) (by rw [size_flatK];omega)
      rw [←Nat.add_assoc] at hb
     ·rw [hb.1];rfl
     ·exact hb.2
    have HS:=hI S2.out
    have HI:=hI I2.out
    clear hzs S2 I2
    go_wp2
    go_ret
    have hlen:=HI.out.len
    refine ⟨?_,?_,?_⟩
    ·simp only [hlen];rfl
    ·exact qbj HS.out.grown (qdi _ _ _ _)
    ·have:=que HS.out HI.out zs
     simpa using this
end Go.Proofs.YtlkmagmdhopcjaaGreat
