/- Texts that the law leans on. -/
import Derived.Test.YtlkmagmdhopcjaaGreatMSrtK
import Derived.Test.YtlkmagmdhopcjaaGreatMTbB
import Derived.Test.YtlkmagmdhopcjaaGreatShelf
import Derived.Lib.SliceRun
namespace Go.Proofs.YtlkmagmdhopcjaaGreat
open Go.RowKit Go.Sort Go.Lib
set_option maxRecDepth 100000
set_option maxHeartbeats 8000000 in
theorem entDel (p:EN→Bool) (g:Nat) (lb:Array Value) (eg:∀ args w,(callFunc g args).run Tryz.prog w=.ok (.enter g args) w) (blk off cap:Nat) (d:Array (EN)) (w:World)
 (hp:∀ W x,w.grownBy W (some blk)→Calls Tryz.prog g (#[.agg (encE x).toArray] ++ lb) W fun e w'=>e=.returned (.bool (p x))∧Below W.heap.size W w')
 (hH:HoldsK encE 10 w blk off d) (hlt:blk < w.heap.size) (hsz:d.size≤1000000) (hcap:d.size≤cap) :
 Calls Tryz.prog 165 #[.slice (some ⟨blk,off,none⟩) d.size cap,.func (.func g) #[] lb] w fun e w'=>e=.returned (.slice (some ⟨blk,off,none⟩) (d.toList.filter fun x=>!p x).toArray.size cap)∧w.grownBy w' (some blk)∧RdK encE 10 w'.heap.size w' (some ⟨blk,off,none⟩) (d.toList.filter fun x=>!p x).toArray:=by
 have tl:∀ j,j < d.size→d.toList[j]! = d[j]!:=fun j hj=>by rw [getElem!_pos d j hj,getElem!_pos d.toList j (by simpa using hj)];simp
 have hIF:=AnyQ.slices_IndexFunc (P:=Tryz.prog) { Tryz.laysIdxN with } 10 Tryz.isAgg58 Tryz.sizeOf58 encE qbz p g lb eg blk off d.size cap d.toList w
  (fun W x hb=>(hp W x (qba hb _)).mono fun _ _ ⟨he,hb'⟩=>⟨he,hb.trans (hb'.mono hb.size)⟩) (by simp) (by omega) hlt (fun j hj i v hv=>by
    have hj':j < d.size:=by simpa using hj
    have hi:i < 10:=by
     rcases Nat.lt_or_ge i 10 with h' | h'
     ·exact h'
     ·rw [List.getElem?_eq_none (by rw [qbz];exact h')] at hv;cases hv
    rw [tl j hj'] at hv
    rw [(hH.cell hj' hi).1,List.getElem!_eq_getElem?_getD,hv];rfl)
 rw [show d.toList.take d.size=d.toList from List.take_of_length_le (by simp)] at hIF
 obtain ⟨kp,HK⟩:∃ kp:Nat→Bool,Hid (kp=fun j=>!p d[j]!):=⟨_,rfl⟩
 have hfil:(d.toList.filter fun x=>!p x)=keptUpTo kp d d.size:=by rw [HK.out];exact (keptUpTo_filter (fun x=>!p x) d).symm
 rw [hfil]
 have HH:=hI hH
 have HP:=hI hp
 rcases idxByFrom_spec (fun _ y=>p y) default d.toList 0 with ⟨e1,hall⟩ | ⟨k0,hk0,e1,ht,hall⟩
 ·have e2:Lib.idxBy (fun _ y=>p y) d.toList default = -1:=e1
  rw [e2] at hIF
  have hkeep:∀ j,j < d.size→kp j=true:=fun j hj=>by rw [HK.out];show (!p d[j]!)=true;rw [←tl j hj,hall j (by simpa using hj)];rfl
  have e3:keptUpTo kp d d.size=d.toList:=by rw [keptUpTo_all kp d _ hkeep,range_map_get]
  have HIF:=hI hIF
  clear hH hp hIF hall tl hkeep hfil e1 e2
  have HE3:=hI e3
  clear e3
  go_enter Tryz.func165,Tryz.ntmps165
  go_wp2_with fail
  refine HIF.out.mono ?_
  rintro e w1 ⟨rfl,hb1⟩
  go_wp2
  go_ret
  rw [HE3.out]
  refine ⟨by simp,qba hb1 _,?_⟩
  have hhk:=qfy HH.out hlt hb1
  have:=RdK.of_holds hhk (B:=w1.heap.size) (Nat.lt_of_lt_of_le hlt hb1.size)
  simpa using this
 ·have hk0':k0 < d.size:=by simpa using hk0
  have e2:Lib.idxBy (fun _ y=>p y) d.toList default=(k0:Int):=by unfold Lib.idxBy;rw [e1];simp
  rw [e2] at hIF
  have hkeep:∀ j,j < k0→kp j=true:=fun j hj=>by rw [HK.out];show (!p d[j]!)=true;rw [←tl j (by omega),hall j hj];rfl
  have hdrop:kp k0=false:=by rw [HK.out];show (!p d[k0]!)=false;rw [←tl k0 hk0'];rw [show p d.toList[k0]! = true from ht];rfl
  have hne1:((k0:Int) == -1)=false:=beq_eq_false_iff_ne.2 (by omega)
  have HIF:=hI hIF
  have HST:=hI (KeptInv.start (d:=d) hkeep hdrop)
  clear hH hp hIF hall ht e1 e2 tl hkeep hdrop hfil
  go_enter Tryz.func165,Tryz.ntmps165
  go_wp2_with fail
  refine HIF.out.mono ?_
  rintro e w1 ⟨rfl,hb1⟩
  have HB1:=hI hb1
  clear hb1 HIF
  go_wp2
  go_loopg [5,6] d.size (fun gg s5 s6 wr=>∃ (i j:Nat) (dk:Array (EN)),s5=.int .i64 i∧s6=.int .i64 j∧j≤d.size∧d.size - j≤gg∧Aside (SrtK encE 10 w blk off dk wr)∧Aside (KeptInv kp d j i dk))
  case atStart=>exact ⟨k0,k0 + 1,d,rfl,by go_num,by omega,by omega,(SrtK.refl HH.out hlt).below HB1.out,HST.out⟩
  case round =>
   obtain ⟨i,j,dk,rfl,rfl,hjd,hgg,S2,I2⟩:=hrel
   have hij:=I2.out.lt
   have hds:=I2.out.size
   by_cases hlt2:j < d.size
   ·have hltz:(j:Int) < (d.size:Int):=by omega
    have cj0:=(S2.out.holds.cell (i:=j) (c:=0) (by omega) (by decide)).1
    have cj1:=(S2.out.holds.cell (i:=j) (c:=1) (by omega) (by decide)).1
    have cj2:=(S2.out.holds.cell (i:=j) (c:=2) (by omega) (by decide)).1
    have cj3:=(S2.out.holds.cell (i:=j) (c:=3) (by omega) (by decide)).1
    have cj4:=(S2.out.holds.cell (i:=j) (c:=4) (by omega) (by decide)).1
    have cj5:=(S2.out.holds.cell (i:=j) (c:=5) (by omega) (by decide)).1
    have cj6:=(S2.out.holds.cell (i:=j) (c:=6) (by omega) (by decide)).1
    have cj7:=(S2.out.holds.cell (i:=j) (c:=7) (by omega) (by decide)).1
    have cj8:=(S2.out.holds.cell (i:=j) (c:=8) (by omega) (by decide)).1
    have cj9:=(S2.out.holds.cell (i:=j) (c:=9) (by omega) (by decide)).1
    rw [I2.out.high j (by omega)] at cj0 cj1 cj2 cj3 cj4 cj5 cj6 cj7 cj8 cj9
    obtain ⟨u,hu⟩:∃ u,d[j]! = u:=⟨_,rfl⟩
    rw [hu] at cj0 cj1 cj2 cj3 cj4 cj5 cj6 cj7 cj8 cj9
    have C:Aside (d[j]! = u):=hu
    clear hu
    simp only [encE,List.getElem!_cons_zero,List.getElem!_cons_succ,Nat.add_zero] at cj0 cj1 cj2 cj3 cj4 cj5 cj6 cj7 cj8 cj9
    have HC:=hI (fun W (hg:w.grownBy W (some blk))=>HP.out W u hg)
    have ilz:(i:Int) < (d.size:Int):=by omega
    have hw2:∀ w2,Below (wr.alloc (.cells #[.int .i64 u.id,.int .i64 u.ph,.int .i64 u.qu,.int .i64 u.t,.int .i64 u.bal,.int .i64 u.abal,.int .i64 u.seen,.int .i64 u.age,.string u.pay,.slice u.A u.z.size u.c] 58)).heap.size (wr.alloc (.cells #[.int .i64 u.id,.int .i64 u.ph,.int .i64 u.qu,.int .i64 u.t,.int .i64 u.bal,.int .i64 u.abal,.int .i64 u.seen,.int .i64 u.age,.string u.pay,.slice u.A u.z.size u.c] 58)) w2→SrtK encE 10 w blk off dk w2∧w2.cell? ⟨wr.heap.size,0,none⟩=some (.int .i64 u.id)∧w2.cell? ⟨wr.heap.size,1,none⟩=some (.int .i64 u.ph)∧w2.cell? ⟨wr.heap.size,2,none⟩=some (.int .i64 u.qu)∧w2.cell? ⟨wr.heap.size,3,none⟩=some (.int .i64 u.t)∧w2.cell? ⟨wr.heap.size,4,none⟩=some (.int .i64 u.bal)∧w2.cell? ⟨wr.heap.size,5,none⟩=some (.int .i64 u.abal)∧w2.cell? ⟨wr.heap.size,6,none⟩=some (.int .i64 u.seen)∧w2.cell? ⟨wr.heap.size,7,none⟩=some (.int .i64 u.age)∧w2.cell? ⟨wr.heap.size,8,none⟩=some (.string u.pay)∧w2.cell? ⟨wr.heap.size,9,none⟩=some (.slice u.A u.z.size u.c):=fun w2 hb=>by
     have hS:=S2.out.below (qaa (bel1 wr _) hb)
     refine ⟨hS,?_,?_,?_,?_,?_,?_,?_,?_,?_,?_⟩
     all_goals exact (hb.cell (p:=⟨wr.heap.size,_,none⟩) (by simp)).trans (qbb wr _ _ _)
    have HW2:=hI hw2
    clear hw2
    cases hq:p u with
    | false =>
      rw [hq] at HC
      go_wp2_with fail
      refine (HC.out _ (qbj S2.out.grown (qba (bel1 wr _) _))).mono ?_
      rintro e w2 ⟨rfl,hb2⟩
      obtain ⟨hS,uu0,uu1,uu2,uu3,uu4,uu5,uu6,uu7,uu8,uu9⟩:=HW2.out w2 hb2
      have HS:=hI hS
      have ci0:=hS.holds.cell (i:=i) (c:=0) (by omega) (by decide)
      have cc0:=ci0.1
      have cf0:=ci0.2
      have ci1:=hS.holds.cell (i:=i) (c:=1) (by omega) (by decide)
      have cc1:=ci1.1
      have cf1:=ci1.2
      have ci2:=hS.holds.cell (i:=i) (c:=2) (by omega) (by decide)
      have cc2:=ci2.1
      have cf2:=ci2.2
      have ci3:=hS.holds.cell (i:=i) (c:=3) (by omega) (by decide)
      have cc3:=ci3.1
      have cf3:=ci3.2
      have ci4:=hS.holds.cell (i:=i) (c:=4) (by omega) (by decide)
      have cc4:=ci4.1
      have cf4:=ci4.2
      have ci5:=hS.holds.cell (i:=i) (c:=5) (by omega) (by decide)
      have cc5:=ci5.1
      have cf5:=ci5.2
      have ci6:=hS.holds.cell (i:=i) (c:=6) (by omega) (by decide)
      have cc6:=ci6.1
      have cf6:=ci6.2
      have ci7:=hS.holds.cell (i:=i) (c:=7) (by omega) (by decide)
      have cc7:=ci7.1
      have cf7:=ci7.2
      have ci8:=hS.holds.cell (i:=i) (c:=8) (by omega) (by decide)
      have cc8:=ci8.1
      have cf8:=ci8.2
      have ci9:=hS.holds.cell (i:=i) (c:=9) (by omega) (by decide)
      have cc9:=ci9.1
      have cf9:=ci9.2
      simp only [Nat.add_zero] at cc0 cf0
      clear hS hb2 HC HW2 ci0 ci1 ci2 ci3 ci4 ci5 ci6 ci7 ci8 ci9
      generalize (encE dk[i]!)[0]! = old0 at cc0
      generalize (encE dk[i]!)[1]! = old1 at cc1
      generalize (encE dk[i]!)[2]! = old2 at cc2
      generalize (encE dk[i]!)[3]! = old3 at cc3
      generalize (encE dk[i]!)[4]! = old4 at cc4
      generalize (encE dk[i]!)[5]! = old5 at cc5
      generalize (encE dk[i]!)[6]! = old6 at cc6
      generalize (encE dk[i]!)[7]! = old7 at cc7
      generalize (encE dk[i]!)[8]! = old8 at cc8
      generalize (encE dk[i]!)[9]! = old9 at cc9
      go_wp2
      go_roundg (d.size - (j + 1))
      case measure=>omega
      case rel =>
       refine ⟨i + 1,j + 1,dk.setIfInBounds i u,by go_num,by go_num,by omega,Nat.le_refl _,HS.out.put qbz (by omega) u,(show Aside _ from ?_)⟩
       have:=I2.out.keep hlt2 (by rw [HK.out];show (!p d[j]!)=true;rw [C.out,hq];rfl)
       rwa [C.out] at this
    | true =>
      rw [hq] at HC
      go_wp2_with fail
      refine (HC.out _ (qbj S2.out.grown (qba (bel1 wr _) _))).mono ?_
      rintro e w2 ⟨rfl,hb2⟩
      have HS:=hI (HW2.out w2 hb2).1
      clear hb2 HC HW2
      go_wp2
      go_roundg (d.size - (j + 1))
      case measure=>omega
      case rel=>exact ⟨i,j + 1,dk,rfl,by go_num,by omega,Nat.le_refl _,HS.out,I2.out.skip (by rw [HK.out];show (!p d[j]!)=false;rw [C.out,hq];rfl)⟩
   ·obtain rfl:j=d.size:=by omega
    have hltz:¬ (d.size:Int) < (d.size:Int):=by omega
    have ilz:(i:Int) < (d.size:Int):=by omega
    have icz:(i:Int)≤(cap:Int):=by omega
    have hnc:(cap=i)=False:=by simp;omega
    obtain ⟨zs,hzs,hcl⟩:∃ zs,zs=zs∧∀ ty,(Builtin.clear_ #[22] ty #[.slice (some ⟨blk,off + i * 10,none⟩) (d.size - i) (cap - i)]).run Tryz.prog wr=.ok (.tuple #[]) (wr.setCells blk (off + i * 10) zs):=by
     refine ⟨_,rfl,fun ty=>qev wr _ _ ty _ Tryz.underlying22 Tryz.zeroValue58 (qgw _ _ (by simp [Value.cells,Value.oneCell'])) blk (off + i * 10) _ (by omega) (fun t ht=>?_) (fun t ht=>?_)⟩
     all_goals
      rw [qec] at ht
      have ht':t < (d.size - i) * 10:=ht
      have hb:=S2.out.holds (i * 10 + t) (by rw [size_flatK];have:=Nat.mul_le_mul_right 10 (show i≤d.size by omega);rw [Nat.sub_mul] at ht';omega)
      rw [←Nat.add_assoc] at hb
     ·rw [hb.1];rfl
     ·exact hb.2
    have HS:=hI S2.out
    have HI:=hI I2.out
    clear hzs S2 I2
    go_wp2
    go_ret
    have hlen:=HI.out.len
    refine ⟨?_,?_,?_⟩
    ·simp only [hlen];rfl
    ·exact qbj HS.out.grown (qdi _ _ _ _)
    ·have:=que HS.out HI.out zs
     simpa using this
end Go.Proofs.YtlkmagmdhopcjaaGreat
namespace Go.Proofs.YtlkmagmdhopcjaaGreat
open Go.RowKit Go.Sort Go.Lib
set_option maxRecDepth 100000
theorem qkz:(Tryz.prog.info? 58).map (fun i=>(i.zero,i.size,i.bytes))=some (some (.agg #[.int .i64 0,.int .i64 0,.int .i64 0,.int .i64 0,.int .i64 0,.int .i64 0,.int .i64 0,.int .i64 0,.string ⟨#[]⟩,.slice none 0 0]),10,104):=by kernel_rfl
theorem newL (W:World) (l:List Value) (t:TypeId):∀ j u,l[j]?=some u→(W.alloc (.cells l.toArray t)).cell? ((⟨W.heap.size,0,none⟩:Addr).add j)=some u:=by
 intro j u hj
 rw [Addr.add_lit,Nat.zero_add,qbb]
 rw [←hj]
 simp
theorem own_app_E {w wr w1:World} {B:Nat} {o:Obj} {e:TypeId} {s n:Nat} {v:Value} {xs:List Value} (hb:Below B w wr) (hB:B≤wr.heap.size) (hown:wr.ownsRow B e s v n xs) (hg:(wr.alloc o).grownBy w1 v.ownBlock):Below B w w1 :=
 (hb.alloc hB o).grown hg (by simp;omega) (fun k hk=>(hown.lt k hk).1)
theorem qje {w W:World} {B s n:Nat} {e:TypeId} {v:Value} {xs:List Value} (h:w.ownsRow B e s v n xs) (hb:Below w.heap.size w W):W.ownsRow B e s v n xs:=by
 obtain ⟨h0,h1 | ⟨g,cap,cur,hv,hB,hh,hr⟩⟩:=h
 ·exact ⟨h0,Or.inl h1⟩
 ·exact ⟨h0,Or.inr ⟨g,cap,cur,hv,hB,(hb.block g (blkL hh)).trans hh,hr⟩⟩
set_option maxHeartbeats 2000000 in
theorem CloneN (A:Option Addr) (c:Nat) (d:Array EN) (w:World) (h:RdK encE 10 w.heap.size w A d) (hd:d.size≤1000000) :
 Calls Tryz.prog 62 #[.slice A d.size c] w fun e w'=>∃ v,e=.returned v∧w'.ownsRow w.heap.size 58 10 v d.size (flatK encE 10 d).toList∧Below w.heap.size w w':=by
 obtain ⟨i0,hi0,hz0,hz1,hz2⟩:=info_parts qkz
 cases A with
 | none =>
   have h0:d.size=0:=by
    rcases Nat.eq_zero_or_pos d.size with h0 | h0
    ·exact h0
    ·obtain ⟨b,off,e,_⟩:=h h0;cases e
   obtain rfl:d=#[]:=Array.eq_empty_of_size_eq_zero h0
   exact (AnyE.slices_Clone_nil Tryz.laysCloneN 0 c w).mono fun e w' ⟨he,hw⟩=>⟨_,he,qci _ _ _ _ _,by rw [hw];exact Below.refl _ _⟩
 | some ad =>
   have HR:=hI h
   clear h
   have q33:∀ (w:World) (a:Option Addr) (n c n' c':Nat),(binOp .eql 22 (.slice a n c) (.slice none n' c')).run Tryz.prog w=.ok (.bool a.isNone) w:=fun w a n c n' c'=>Lib.run_eql_slice_nil w _ _ a n c n' c' Tryz.underlying22
   go_enter Tryz.func62,Tryz.ntmps62
   go_wp2_with (at_builtin;refine qfg qrm qbz (by decide) rfl (.tmp 5) (.tmp 6) 22 rfl w.heap.size 58 i0 (.agg #[.int .i64 0,.int .i64 0,.int .i64 0,.int .i64 0,.int .i64 0,.int .i64 0,.int .i64 0,.int .i64 0,.string ⟨#[]⟩,.slice none 0 0]) 104 Tryz.underlying22 hi0 hz0 hz1 hz2 rfl _ #[] rfl (qcc w 58 encE 10) w.heap.size (some ad) c d rfl (HR.out.alloc (Nat.le_refl _) _) (fun h=>by cases h) (by simp;omega) (by decide) (by simp) ?_;intro v1 w1 hown1 hg1 _)
   go_ret
   have hb1:Below w.heap.size w w1:=(bel1 w _).grown hg1 (by simp) (fun k hk=>((qcc w 58 encE 10).lt k hk).1)
   exact ⟨v1,rfl,by simpa using hown1,hb1⟩
def qin (upto:Int) (x:EN):Bool:=decide (x.ph=6∧x.t≤upto)
theorem drop1_any (x:EN) (n:Int) (g:Nat) (w:World) (hg:g < w.heap.size) (hc:w.cell? ⟨g,0,none⟩=some (.int .i64 n)) :
 Calls Tryz.prog 166 #[.agg (encE x).toArray,.pointer (some ⟨g,0,none⟩)] w fun e w'=>e=.returned (.bool (qin n x))∧Below w.heap.size w w':=by
 have hc':∀ o,(w.alloc o).cell? ⟨g,0,none⟩=some (.int .i64 n):=fun o=>(World.cell?_alloc_lt w _ _ hg).trans hc
 have HB:Hid (∀ o,Below w.heap.size w (w.alloc o)):=hI (fun o=>bel1 w o)
 simp only [encE]
 go_enter Tryz.func166,Tryz.ntmps166
 go_wp2
 all_goals
  go_ret
  refine ⟨qel ?_,HB.out _⟩
  grind
theorem delNil (g:Nat) (lb:Array Value) (w:World) :
 Calls Tryz.prog 165 #[.slice none 0 0,.func (.func g) #[] lb] w fun e w'=>e=.returned (.slice none 0 0)∧Below w.heap.size w w':=by
 have HI:Hid (Calls Tryz.prog 56 #[.slice none 0 0,.func (.func g) #[] lb] w fun e w'=>e=.returned (.int .i64 (-1))∧w'=w):=by
  show Calls _ _ _ _ _
  go_enter Tryz.func56,Tryz.ntmps56
  go_wp2
  refine wp_loop_rounds 1 ?_;rw [rounds_succ]
  go_wp2
  go_ret
  exact ⟨rfl,rfl⟩
 go_enter Tryz.func165,Tryz.ntmps165
 go_wp2_with fail
 refine HI.out.mono ?_
 rintro e w1 ⟨rfl,rfl⟩
 go_wp2
 go_ret
 exact ⟨rfl,Below.refl _ _⟩
def qeq (upto:Int) (d:Array EN):Array EN:=(d.toList.filter fun x=>!qin upto x).toArray
theorem qjx (upto:Int) (d:Array EN):(qeq upto d).size≤d.size:=by
 unfold qeq
 simpa using List.length_filter_le (fun x=>!qin upto x) d.toList
theorem RdT.sub {w w':World} {A A':Option Addr} {d d':Array EN} (h:RdT w A d) (hb:Below w.heap.size w w') (hr:RdK encE 10 w'.heap.size w' A' d') (hs:d'.size≤1000) (hm:∀ x ∈ d'.toList,x ∈ d.toList):RdT w' A' d':=by
 refine ⟨hr,fun i hi=>?_,hs⟩
 have h1:=hm d'[i]! (by rw [getElem!_pos d' i hi];simp)
 obtain ⟨j,hj,e⟩:=List.getElem_of_mem h1
 have hj':j < d.size:=by simpa using hj
 have:=h.el j hj'
 rw [getElem!_pos d j hj'] at this
 have e':d[j]=d'[i]!:=by rw [←e];simp
 rw [e'] at this
 exact this.below hb
theorem qjf {upto:Int} {d:Array EN}:∀ x ∈ (qeq upto d).toList,x ∈ d.toList:=by
 intro x hx
 unfold qeq at hx
 simp only [List.mem_filter] at hx
 exact hx.1
end Go.Proofs.YtlkmagmdhopcjaaGreat
namespace Go.Proofs.YtlkmagmdhopcjaaGreat
open Go.RowKit Go.Sort Go.Lib
set_option maxRecDepth 100000
set_option maxHeartbeats 4000000 in
theorem qwu (A:Option Addr) (c:Nat) (d:Array EN) (n:Int) (w:World) (h:RdT w A d) :
 Calls Tryz.prog 83 #[.slice A d.size c,.int .i64 n] w fun e w'=>∃ A' c',e=.returned (.slice A' (qeq n d).size c')∧RdT w' A' (qeq n d)∧(∀ g off,A'=some ⟨g,off,none⟩→w.heap.size≤g)∧Below w.heap.size w w':=by
 have HR:=hI h
 have HC:=hI (CloneN A c d (w.alloc (.cells #[.int .i64 n] 3)) (h.below (bel1 w _)).rd (by have:=h.sz;omega))
 have HB0:=hI (bel1 w (.cells #[.int .i64 n] 3))
 have hd0:=h.sz
 clear h
 go_enter Tryz.func83,Tryz.ntmps83
 go_wp2_with fail
 refine HC.out.mono ?_
 rintro e w1 ⟨v,rfl,hown,hb1⟩
 have HB1:=hI (qaa HB0.out hb1)
 have hgl:w.heap.size < w1.heap.size:=by have:=hb1.size;simp at this;omega
 have hgc:w1.cell? ⟨w.heap.size,0,none⟩=some (.int .i64 n):=(hb1.cell (p:=⟨w.heap.size,0,none⟩) (by simp)).trans (qbb w _ _ 0)
 clear hb1 HC
 by_cases hv:v=.slice none 0 0
 ·subst hv
  have hd:d=#[]:=by
   obtain ⟨_,⟨_,h0⟩ | ⟨g,cap,cur,hv,_⟩⟩:=hown
   ·exact Array.eq_empty_of_size_eq_zero h0
   ·cases hv
  subst hd
  have HD:=hI (delNil 166 #[.pointer (some ⟨w.heap.size,0,none⟩)] w1)
  clear hown
  go_wp2_with fail
  refine HD.out.mono ?_
  rintro e w2 ⟨rfl,hb2⟩
  have HB2:=hI (qaa HB1.out hb2)
  clear hb2
  go_wp2
  go_ret
  exact ⟨none,0,rfl,⟨fun h=>absurd h (by simp [qeq]),fun i hi=>absurd hi (by simp [qeq]),by simp [qeq]⟩,(fun g off e=>by cases e),HB2.out⟩
 ·obtain ⟨g,cap,rfl,hg,hgl2,hH⟩:=qbo hown hv
  have hcap:d.size≤cap:=by
   obtain ⟨_,⟨h1,_⟩ | ⟨g',cap',cur,hv',_,_,hnc,_⟩⟩:=hown
   ·exact absurd h1 hv
   ·injection hv' with _ _ hc'
    rw [hc'];exact hnc
  have hgw:w.heap.size < g:=by simp at hg;omega
  have HD:=hI (entDel (qin n) 166 #[.pointer (some ⟨w.heap.size,0,none⟩)] (enters_of Tryz.func166 (by kernel_rfl) rfl) g 0 cap d w1
   (fun W x hW=>drop1_any x n w.heap.size W (Nat.lt_of_lt_of_le hgl hW.size) (by
     have:=hW.block w.heap.size hgl (by intro e;injection e with e;omega)
     unfold World.cell? at hgc ⊢
     simp only [this]
     exact hgc)) hH hgl2 (by omega) hcap)
  clear hown hv
  go_wp2_with fail
  refine HD.out.mono ?_
  rintro e w2 ⟨rfl,hgr,hrd⟩
  have HB2:=hI (HB1.out.grown hgr (by omega) (fun k hk=>by injection hk with hk;omega))
  have HRD:=hI hrd
  clear hgr hrd HD
  go_wp2
  go_ret
  exact ⟨_,cap,rfl,HR.out.sub HB2.out HRD.out (by have:=qjx n d;omega) qjf,(fun g' off e=>by injection e with e;injection e with e1 e2;omega),HB2.out⟩
end Go.Proofs.YtlkmagmdhopcjaaGreat
