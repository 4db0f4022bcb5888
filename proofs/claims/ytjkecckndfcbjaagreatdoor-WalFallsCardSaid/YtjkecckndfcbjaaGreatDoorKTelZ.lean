/- Texts that the law leans on. -/
import Derived.Deep.RegionHeld3
import Derived.Deep.RegionWith
import Derived.Test.YtjkecckndfcbjaaGreatDoorKFewA
import Derived.Test.YtjkecckndfcbjaaGreatDoorKWalA
import Derived.Test.YtjkecckndfcbjaaGreatDoorKDocK
import Derived.BigGuardPart
import Derived.Test.YtjkecckndfcbjaaGreatDoorKLftA
import Derived.Test.YtjkecckndfcbjaaGreatDoorKAnyE
namespace Go.Proofs.YtjkecckndfcbjaaGreatDoor
open Go.RowKit Go.Sort Crc Nb
set_option maxRecDepth 100000
set_option maxHeartbeats 8000000 in
theorem qfs (s:ByteArray) (w:World) (hs:s.size≤1000000) :
 Calls Tryz.prog 40 #[.string s] w (TellP s w):=by
 obtain ⟨i0,hi0,hz0,hz1,hz2⟩:=info_parts qty
 have HA:=hI (qre s (w.alloc (.cells (qav zT (.slice none 0 0) false) 101)) hs)
 have HTK:Hid (∀ (b:List UInt8) (W:World),b.length≤20000→Calls Tryz.prog 70 #[.string ⟨b.toArray⟩] W fun e w'=>(∃ r,e=.returned (.tuple #[recV r,.int .i64 (rtC b:Int)])∧(rtC b≠0→r=zR)∧(rtC b=0→r=recO b))∧Below W.heap.size W w'):=fun b W hl=>by
  refine (qqm ⟨b.toArray⟩ W (by rw [qbb];omega)).mono ?_
  rintro e w' ⟨⟨r,h1,h2,h3⟩,hb'⟩
  exact ⟨⟨r,h1,h2,h3⟩,hb'⟩
 have HSZ:Hid (∀ (b:List UInt8) (W:World),b.length≤20000→Calls Tryz.prog 71 #[.string ⟨b.toArray⟩] W fun e w'=>(∃ f:ByteArray,e=.returned (.tuple #[.string f,.int .i64 0])∧f.size=(qak b).length)∧Below W.heap.size W w'):=fun b W hl=>by
  refine (qls ⟨b.toArray⟩ W (by rw [qbb];omega)).mono ?_
  rintro e w' ⟨h1,hb'⟩
  exact ⟨⟨_,h1,by unfold frW;rw [qbb]⟩,hb'⟩
 obtain ⟨g1,g2,g3,g4⟩:=qfy s.data.toList
 have g5:=qhk s.data.toList
 have elen:s.data.toList.length=s.size:=by simp
 rw [elen] at g4 g5
 obtain ⟨bs,hbs⟩:∃ bs:Array (List UInt8),(allL s.data.toList).1.toArray=bs:=⟨_,rfl⟩
 have hbl:(allL s.data.toList).1=bs.toList:=by rw [←hbs]
 have HTE:Hid (qdb s.data.toList=qdm zT 0 (bs.toList.drop 0)):=by show _=_;rw [List.drop_zero,←hbl];rfl
 have HFW:Hid (∀ i,i < bs.size→bs[i]!.length≤20000):=fun i hi=>by
  refine g1 _ ?_
  rw [hbl,getElem!_pos bs i hi]
  exact Array.getElem_mem_toList hi
 have hbz:bs.size≤200000:=by
  have:(allL s.data.toList).1.length=bs.size:=by rw [hbl];simp
  omega
 have HSM:Hid (zT.n + ((bs.toList.drop 0).flatMap qak).length≤s.size):=by
  show _≤_
  rw [List.drop_zero,←hbl,←g2]
  show 0 + _≤_
  omega
 unfold AllF at HA
 rw [hbs] at HA
 clear g1 g2 g3 g4 g5 elen hbs hbl
 go_enter Tryz.func40,Tryz.ntmps40
 go_wp2_with fail
 refine HA.out.mono ?_
 rintro e w1 ⟨vB,rfl,hownB,hb1⟩
 obtain ⟨AB,cB,rfl,hrB,_⟩:=qbj hownB
 have HRB:=hI hrB
 have HB1:=hI (qac (bel1 w (.cells (qav zT (.slice none 0 0) false) 101)) hb1)
 have HW2:Hid (w1.heap[w.heap.size]?=some (.cells (qav zT (.slice none 0 0) false) 101 (0,0))):=(hb1.block _ (by simp)).trans (qao w _)
 have hlt1:w.heap.size < w1.heap.size:=by have:=hb1.size;simp at this;omega
 clear hownB hrB hb1 HA
 go_upto_region 4 with (fail)
 obtain ⟨w2,hw2⟩:∃ W,w1.alloc (.cells #[.int .i64 0,.string ⟨#[]⟩,.slice none 0 0,.bool false] 101)=W:=⟨_,rfl⟩
 have HX0:Hid (w2.heap[w1.heap.size]?=some (.cells (qav zT (.slice none 0 0) false) 101 (0,0))):=by rw [←hw2];exact qao w1 _
 have HBA:Hid (Below w1.heap.size w1 w2):=by rw [←hw2];exact bel1 w1 _
 have hsz0:w2.heap.size=w1.heap.size + 1:=by rw [←hw2];simp
 rw [hw2]
 clear hw2
 go_wp2_with fail
 go_loopw [6,7] (fun en iv wr=>∃ (i:Nat) (t:TL) (Am:Option Addr) (cm:Nat),iv=.int .i64 (i:Int)∧en=.int .i64 (t.n:Int)∧i≤bs.size∧t.evs.length≤i∧Hid (qdb s.data.toList=qdm t i (bs.toList.drop i))∧Hid (t.n + ((bs.toList.drop i).flatMap qak).length≤s.size)∧Hid (wr.heap[w1.heap.size]?=some (.cells (qav t (.slice Am (evA t.evs).size cm) false) 101 (0,0)))∧Hid (wr.ownsRow (w1.heap.size + 1) 56 2 (.slice Am (evA t.evs).size cm) (evA t.evs).size (flatK qbm 2 (evA t.evs)).toList)∧Hid (Below w1.heap.size w1 wr)∧Hid (w1.heap.size + 1≤wr.heap.size)) (fun _ i _=>bs.size - (intOf i).toNat)
 case atStart=>exact ⟨0,zT,none,0,rfl,rfl,Nat.zero_le _,Nat.le_refl _,HTE,HSM,HX0,qei _ _ _ _ _,HBA,Nat.le_of_eq hsz0.symm⟩
 case round =>
  obtain ⟨i,t,Am,cm,rfl,rfl,hi,hel,HT,HS,HX,HOW,HB,HSZW⟩:=hrel
  by_cases hlt:i < bs.size
  ·have kz:(i:Int) < (bs.size:Int):=by omega
   rw [qsn hlt] at HT HS
   obtain ⟨blk,off,rfl,hblk,f⟩:=(HRB.out.below HB.out).at_ (i:=i) hlt
   have f0:=f 0 (by omega)
   have hbl:=HFW.out i hlt
   clear f
   generalize bs[i]! = bd at f0 HT HS hbl
   simp only [Nat.add_zero,Nat.mul_one,eS,List.getElem!_cons_zero] at f0
   have HFL:Hid (t.n + (qak bd).length + ((bs.toList.drop (i + 1)).flatMap qak).length≤s.size):=by
    show _≤_
    have:=HS.out
    rw [List.flatMap_cons,List.length_append] at this
    omega
   have hfl:t.n + (qak bd).length≤1000000:=by have:=HFL.out;omega
   have HTK1:=hI (HTK.out bd wr hbl)
   have HSZ1:=hI (fun (W:World)=>HSZ.out bd W hbl)
   go_wp2_with fail
   refine HTK1.out.mono ?_
   rintro e wy ⟨⟨r,rfl,hr0,hr1⟩,hby⟩
   have HBY:=hI (HB.out.trans (hby.mono (by have:=HSZW.out;omega)))
   have HXY:Hid (wy.heap[w1.heap.size]?=some (.cells (qav t (.slice Am (evA t.evs).size cm) false) 101 (0,0))):=(hby.block _ (by have:=HSZW.out;omega)).trans HX.out
   have HOY:=hI (qas HOW.out hby)
   have HSY:Hid (w1.heap.size + 1≤wy.heap.size):=Nat.le_trans HSZW.out hby.size
   have fy:=(hby.cell (p:=⟨blk,off + i,none⟩) (by have:=HSZW.out;show blk < _;omega)).trans f0
   have hbne:blk≠w1.heap.size:=by omega
   have hblt:blk < wy.heap.size:=by have:=HSZW.out;have:=hby.size;omega
   clear HX HOW HB HSZW hby
   by_cases hrt:rtC bd=0
   ·obtain rfl:=hr1 hrt
    have hez:((rtC bd:Nat):Int)=0:=by omega
    have HRE:=hI (recO_ep hrt)
    have HN0:=hI (fun h0:i=0=>by subst h0;exact nextB_0 (t:=t) hrt)
    have HNS:=hI (fun h0:i≠0=>nextB_s (t:=t) hrt h0)
    have HWB:Hid (qjc t i bd=if i=0 then ⟨(recO bd).ep.toNat,(recO bd).st,t.evs,t.n + (qak bd).length⟩ else ⟨t.ep,t.st,t.evs ++ [((recO bd).k,(recO bd).dt)],t.n + (qak bd).length⟩):=rfl
    generalize recO bd=r at HRE HN0 HNS HWB
    obtain ⟨ep,sq,sn,k,dt,st⟩:=r
    unfold recV
    dsimp only at HRE HN0 HNS HWB ⊢
    clear hr0 hr1 HTK1
    have b5:=HXY.out
    have y0:wy.cell? ⟨w1.heap.size,0,none⟩=some (.int .i64 (t.ep:Int)):=by rw [qad b5];rfl
    have y1:wy.cell? ⟨w1.heap.size,1,none⟩=some (.string t.st):=by rw [qad b5];rfl
    have y2:wy.cell? ⟨w1.heap.size,2,none⟩=some (.slice Am (evA t.evs).size cm):=by rw [qad b5];rfl
    have z0:wy.frozen? ⟨w1.heap.size,0,none⟩=false:=Lib.frozen_of_heap b5 0
    have z1:wy.frozen? ⟨w1.heap.size,1,none⟩=false:=Lib.frozen_of_heap b5 1
    have z2:wy.frozen? ⟨w1.heap.size,2,none⟩=false:=Lib.frozen_of_heap b5 2
    have l5:w1.heap.size < wy.heap.size:=qaa b5
    clear b5
    have HRT:Hid (RoundT 101 w1.heap.size t Am cm w1 wy):=⟨HXY.out,HOY.out,HBY.out,HSY.out⟩
    have hes:(evA t.evs).size≤200000:=by rw [qau];omega
    by_cases h0:i=0
    ·subst h0
     have hN:=HN0.out rfl
     have fy0:wy.cell? ⟨blk,off,none⟩=some (.string ⟨bd.toArray⟩):=fy
     obtain ⟨n,rfl⟩:∃ n:Nat,ep=(n:Int):=⟨ep.toNat,by have:=HRE.out;omega⟩
     cases sn
     ·have HTQ:Hid (qdb s.data.toList=t):=by show _=_;rw [HT.out,qby hN]
      clear HWB HN0 HNS hN HRE HT HS HXY HOY HBY HSY
      have b5:=HRT.out.box
      have y0':wy.cell? ⟨w1.heap.size,0,none⟩=some (.int .i64 (t.ep:Int)):=by rw [qad b5];rfl
      have y1':wy.cell? ⟨w1.heap.size,1,none⟩=some (.string t.st):=by rw [qad b5];rfl
      have y2':wy.cell? ⟨w1.heap.size,2,none⟩=some (.slice Am (evA t.evs).size cm):=by rw [qad b5];rfl
      have y3':wy.cell? ⟨w1.heap.size,3,none⟩=some (.bool false):=by rw [qad b5];rfl
      have y4':wy.frozen? ⟨w1.heap.size,3,none⟩=false:=Lib.frozen_of_heap b5 3
      have l5':w1.heap.size < wy.heap.size:=qaa b5
      have b2:wy.heap[w.heap.size]?=some (.cells (qav zT (.slice none 0 0) false) 101 (0,0)):=(HRT.out.bel.block _ hlt1).trans HW2.out
      have x0:wy.cell? ⟨w.heap.size,0,none⟩=some (.int .i64 0):=by rw [qad b2];rfl
      have x1:wy.cell? ⟨w.heap.size,1,none⟩=some (.string ⟨#[]⟩):=by rw [qad b2];rfl
      have x2:wy.cell? ⟨w.heap.size,2,none⟩=some (.slice none 0 0):=by rw [qad b2];rfl
      have x3:wy.cell? ⟨w.heap.size,3,none⟩=some (.bool false):=by rw [qad b2];rfl
      have f0':wy.frozen? ⟨w.heap.size,0,none⟩=false:=Lib.frozen_of_heap b2 0
      have f1':wy.frozen? ⟨w.heap.size,1,none⟩=false:=Lib.frozen_of_heap b2 1
      have f2':wy.frozen? ⟨w.heap.size,2,none⟩=false:=Lib.frozen_of_heap b2 2
      have f3':wy.frozen? ⟨w.heap.size,3,none⟩=false:=Lib.frozen_of_heap b2 3
      have l2':w.heap.size < wy.heap.size:=qaa b2
      have hne2:w1.heap.size≠w.heap.size:=Nat.ne_of_gt hlt1
      have hne3:w.heap.size≠w1.heap.size:=Nat.ne_of_lt hlt1
      have HB2:=hI b2
      clear b5 b2
      obtain ⟨q,hq⟩:∃ q:Bool,decide (t.n=s.size)=q:=⟨_,rfl⟩
      have HQ:=hI hq
      clear hq
      cases q
      ·have hne:((t.n:Int) == (s.size:Int))=false:=by have:=of_decide_eq_false HQ.out;simp;omega
       go_wp2
       refine bodyPost_ret (v:=.agg (qav t (.slice Am (evA t.evs).size cm) false)) (qbc (t:=2) rfl rfl ((Below.heap_alloc _ _ _ (by simpa [World.setCell] using l2')).trans (qbe HB2.out hne3))) rfl ?_
       exact TellP.alloc (qbq HB1.out HRT.out.bel HRT.out.row HQ.out.symm HTQ.out hlt1 _ _ _ _ _) _
      ·have hne:((t.n:Int) == (s.size:Int))=true:=by have:=of_decide_eq_true HQ.out;simp;omega
       go_wp2
       refine bodyPost_ret (v:=.agg (qav t (.slice Am (evA t.evs).size cm) true)) (qbc (t:=2) rfl rfl ((Below.heap_alloc _ _ _ (by simpa [World.setCell] using l2')).trans (qbe HB2.out hne3))) rfl ?_
       exact TellP.alloc (qbq HB1.out HRT.out.bel HRT.out.row HQ.out.symm HTQ.out hlt1 _ _ _ _ _) _
     ·have HTQ:Hid (qdb s.data.toList=qdm ⟨n,st,t.evs,t.n + (qak bd).length⟩ 1 (bs.toList.drop 1)):=by
       show _=_
       rw [HT.out,qet hN,HWB.out,if_pos rfl]
       simp
      clear HWB HN0 HNS hN HRE HT HS HXY HOY HBY HSY
      go_wp2_with ((go_at_call 71;refine (HSZ1.out _).mono ?_;rintro e wq ⟨⟨fx,rfl,hfx⟩,hbq⟩))
      have HQ:=hI ((((HRT.out.first (n:=n) (st:=st) (k:=t.n + (qak bd).length)).alloc (.cells #[.int .i64 (n:Int),.int .i64 sq,.bool true,.int .i64 k,.string dt,.string st] 139))).below hbq)
      clear hbq
      go_roundw
      case rel=>exact ⟨1,⟨n,st,t.evs,t.n + (qak bd).length⟩,Am,cm,by go_num,by go_num,by omega,by show t.evs.length≤1;omega,HTQ,HFL,HQ.out.box,HQ.out.row,HQ.out.bel,HQ.out.size⟩
      case measure=>simp [intOf];omega
    ·have hz:((i:Int) == 0)=false:=by simp;omega
     have hp:0 < i:=by omega
     have hN:=HNS.out h0
     cases sn
     ·by_cases h1:ep=(t.ep:Int)
      ·subst h1
       by_cases h2:sq=(i:Int)
       ·subst h2
        have HTQ:Hid (qdb s.data.toList=qdm ⟨t.ep,t.st,t.evs ++ [(k,dt)],t.n + (qak bd).length⟩ (i + 1) (bs.toList.drop (i + 1))):=by
         show _=_
         rw [HT.out,qet (by rw [hN];simp),HWB.out,if_neg h0]
        clear HWB HN0 HNS hN HRE HT HS HXY HOY HBY HSY
        have hrow:=HRT.out.row
        go_wp2_with (first | (at_builtin;refine wpList_append_own _ rfl _ _ 37 rfl (w1.heap.size + 1) 56 i0 (.agg #[.int .i64 0,.string ⟨#[]⟩]) 2 24 Tryz.underlying37 hi0 hz0 hz1 hz2 rfl (by decide) _ _ _ rfl ((hrow.alloc (.cells #[.int .i64 (t.ep:Int),.int .i64 (i:Int),.bool false,.int .i64 k,.string dt,.string st] 139)).alloc _) ⟨wy.heap.size + 1,0,none⟩ 1 1 [.int .i64 k,.string dt] rfl rfl (newF2 (wy.alloc (.cells #[.int .i64 (t.ep:Int),.int .i64 (i:Int),.bool false,.int .i64 k,.string dt,.string st] 139)) _ _ _ (by simp)) (by simp [Value.oneCell']) (by unfold maxLen;omega) (by omega) (by simp <;> omega) ?_;intro v' w4 hown' hgrow _;obtain ⟨g',cap',rfl⟩:=ownsRow_succ hown';have HQ1:=hI ((HRT.out.alloc (.cells #[.int .i64 (t.ep:Int),.int .i64 (i:Int),.bool false,.int .i64 k,.string dt,.string st] 139)).next (k:=t.n + (qak bd).length) (e:=(k,dt)) hown' hgrow);have b4:=qhy (HRT.out.alloc (.cells #[.int .i64 (t.ep:Int),.int .i64 (i:Int),.bool false,.int .i64 k,.string dt,.string st] 139)).box (HRT.out.alloc _).row (Nat.lt_succ_self _) hgrow;have y24:w4.cell? ⟨w1.heap.size,2,none⟩=some (.slice Am (evA t.evs).size cm):=(by rw [qad b4];rfl);have z24:w4.frozen? ⟨w1.heap.size,2,none⟩=false:=Lib.frozen_of_heap b4 2;have f4:w4.cell? ⟨blk,off + i,none⟩=some (.string ⟨bd.toArray⟩):=qso fy HRT.out.row (show blk < w1.heap.size + 1 by omega) hgrow;clear b4) | (go_at_call 71;refine (HSZ1.out _).mono ?_;rintro e wq ⟨⟨fx,rfl,hfx⟩,hbq⟩))
        have HQ:=hI (HQ1.out.below hbq)
        clear hbq HQ1
        go_roundw
        case rel=>exact ⟨i + 1,⟨t.ep,t.st,t.evs ++ [(k,dt)],t.n + (qak bd).length⟩,_,_,by go_num,by go_num,by omega,by simp;omega,HTQ,HFL,HQ.out.box,HQ.out.row,HQ.out.bel,HQ.out.size⟩
        case measure=>simp [intOf];omega
       ·have h2':(sq != (i:Int))=true:=by simpa using h2
        have HTQ:Hid (qdb s.data.toList=t):=by show _=_;rw [HT.out,qby (by rw [hN];simp [h2])]
        clear HWB HN0 HNS hN HRE HT HS HXY HOY HBY HSY
        have b5:=HRT.out.box
        have y0':wy.cell? ⟨w1.heap.size,0,none⟩=some (.int .i64 (t.ep:Int)):=by rw [qad b5];rfl
        have y1':wy.cell? ⟨w1.heap.size,1,none⟩=some (.string t.st):=by rw [qad b5];rfl
        have y2':wy.cell? ⟨w1.heap.size,2,none⟩=some (.slice Am (evA t.evs).size cm):=by rw [qad b5];rfl
        have y3':wy.cell? ⟨w1.heap.size,3,none⟩=some (.bool false):=by rw [qad b5];rfl
        have y4':wy.frozen? ⟨w1.heap.size,3,none⟩=false:=Lib.frozen_of_heap b5 3
        have l5':w1.heap.size < wy.heap.size:=qaa b5
        have b2:wy.heap[w.heap.size]?=some (.cells (qav zT (.slice none 0 0) false) 101 (0,0)):=(HRT.out.bel.block _ hlt1).trans HW2.out
        have x0:wy.cell? ⟨w.heap.size,0,none⟩=some (.int .i64 0):=by rw [qad b2];rfl
        have x1:wy.cell? ⟨w.heap.size,1,none⟩=some (.string ⟨#[]⟩):=by rw [qad b2];rfl
        have x2:wy.cell? ⟨w.heap.size,2,none⟩=some (.slice none 0 0):=by rw [qad b2];rfl
        have x3:wy.cell? ⟨w.heap.size,3,none⟩=some (.bool false):=by rw [qad b2];rfl
        have f0':wy.frozen? ⟨w.heap.size,0,none⟩=false:=Lib.frozen_of_heap b2 0
        have f1':wy.frozen? ⟨w.heap.size,1,none⟩=false:=Lib.frozen_of_heap b2 1
        have f2':wy.frozen? ⟨w.heap.size,2,none⟩=false:=Lib.frozen_of_heap b2 2
        have f3':wy.frozen? ⟨w.heap.size,3,none⟩=false:=Lib.frozen_of_heap b2 3
        have l2':w.heap.size < wy.heap.size:=qaa b2
        have hne2:w1.heap.size≠w.heap.size:=Nat.ne_of_gt hlt1
        have hne3:w.heap.size≠w1.heap.size:=Nat.ne_of_lt hlt1
        have HB2:=hI b2
        clear b5 b2
        obtain ⟨q,hq⟩:∃ q:Bool,decide (t.n=s.size)=q:=⟨_,rfl⟩
        have HQ:=hI hq
        clear hq
        cases q
        ·have hne:((t.n:Int) == (s.size:Int))=false:=by have:=of_decide_eq_false HQ.out;simp;omega
         go_wp2
         refine bodyPost_ret (v:=.agg (qav t (.slice Am (evA t.evs).size cm) false)) (qbc (t:=2) rfl rfl ((Below.heap_alloc _ _ _ (by simpa [World.setCell] using l2')).trans (qbe HB2.out hne3))) rfl ?_
         exact TellP.alloc (qbq HB1.out HRT.out.bel HRT.out.row HQ.out.symm HTQ.out hlt1 _ _ _ _ _) _
        ·have hne:((t.n:Int) == (s.size:Int))=true:=by have:=of_decide_eq_true HQ.out;simp;omega
         go_wp2
         refine bodyPost_ret (v:=.agg (qav t (.slice Am (evA t.evs).size cm) true)) (qbc (t:=2) rfl rfl ((Below.heap_alloc _ _ _ (by simpa [World.setCell] using l2')).trans (qbe HB2.out hne3))) rfl ?_
         exact TellP.alloc (qbq HB1.out HRT.out.bel HRT.out.row HQ.out.symm HTQ.out hlt1 _ _ _ _ _) _
      ·have h1':(ep != (t.ep:Int))=true:=by simpa using h1
       have HTQ:Hid (qdb s.data.toList=t):=by show _=_;rw [HT.out,qby (by rw [hN];simp [h1])]
       clear HWB HN0 HNS hN HRE HT HS HXY HOY HBY HSY
       have b5:=HRT.out.box
       have y0':wy.cell? ⟨w1.heap.size,0,none⟩=some (.int .i64 (t.ep:Int)):=by rw [qad b5];rfl
       have y1':wy.cell? ⟨w1.heap.size,1,none⟩=some (.string t.st):=by rw [qad b5];rfl
       have y2':wy.cell? ⟨w1.heap.size,2,none⟩=some (.slice Am (evA t.evs).size cm):=by rw [qad b5];rfl
       have y3':wy.cell? ⟨w1.heap.size,3,none⟩=some (.bool false):=by rw [qad b5];rfl
       have y4':wy.frozen? ⟨w1.heap.size,3,none⟩=false:=Lib.frozen_of_heap b5 3
       have l5':w1.heap.size < wy.heap.size:=qaa b5
       have b2:wy.heap[w.heap.size]?=some (.cells (qav zT (.slice none 0 0) false) 101 (0,0)):=(HRT.out.bel.block _ hlt1).trans HW2.out
       have x0:wy.cell? ⟨w.heap.size,0,none⟩=some (.int .i64 0):=by rw [qad b2];rfl
       have x1:wy.cell? ⟨w.heap.size,1,none⟩=some (.string ⟨#[]⟩):=by rw [qad b2];rfl
       have x2:wy.cell? ⟨w.heap.size,2,none⟩=some (.slice none 0 0):=by rw [qad b2];rfl
       have x3:wy.cell? ⟨w.heap.size,3,none⟩=some (.bool false):=by rw [qad b2];rfl
       have f0':wy.frozen? ⟨w.heap.size,0,none⟩=false:=Lib.frozen_of_heap b2 0
       have f1':wy.frozen? ⟨w.heap.size,1,none⟩=false:=Lib.frozen_of_heap b2 1
       have f2':wy.frozen? ⟨w.heap.size,2,none⟩=false:=Lib.frozen_of_heap b2 2
       have f3':wy.frozen? ⟨w.heap.size,3,none⟩=false:=Lib.frozen_of_heap b2 3
       have l2':w.heap.size < wy.heap.size:=qaa b2
       have hne2:w1.heap.size≠w.heap.size:=Nat.ne_of_gt hlt1
       have hne3:w.heap.size≠w1.heap.size:=Nat.ne_of_lt hlt1
       have HB2:=hI b2
       clear b5 b2
       obtain ⟨q,hq⟩:∃ q:Bool,decide (t.n=s.size)=q:=⟨_,rfl⟩
       have HQ:=hI hq
       clear hq
       cases q
       ·have hne:((t.n:Int) == (s.size:Int))=false:=by have:=of_decide_eq_false HQ.out;simp;omega
        go_wp2
        refine bodyPost_ret (v:=.agg (qav t (.slice Am (evA t.evs).size cm) false)) (qbc (t:=2) rfl rfl ((Below.heap_alloc _ _ _ (by simpa [World.setCell] using l2')).trans (qbe HB2.out hne3))) rfl ?_
        exact TellP.alloc (qbq HB1.out HRT.out.bel HRT.out.row HQ.out.symm HTQ.out hlt1 _ _ _ _ _) _
       ·have hne:((t.n:Int) == (s.size:Int))=true:=by have:=of_decide_eq_true HQ.out;simp;omega
        go_wp2
        refine bodyPost_ret (v:=.agg (qav t (.slice Am (evA t.evs).size cm) true)) (qbc (t:=2) rfl rfl ((Below.heap_alloc _ _ _ (by simpa [World.setCell] using l2')).trans (qbe HB2.out hne3))) rfl ?_
        exact TellP.alloc (qbq HB1.out HRT.out.bel HRT.out.row HQ.out.symm HTQ.out hlt1 _ _ _ _ _) _
     ·have HTQ:Hid (qdb s.data.toList=t):=by show _=_;rw [HT.out,qby (by rw [hN];simp)]
      clear HWB HN0 HNS hN HRE HT HS HXY HOY HBY HSY
      have b5:=HRT.out.box
      have y0':wy.cell? ⟨w1.heap.size,0,none⟩=some (.int .i64 (t.ep:Int)):=by rw [qad b5];rfl
      have y1':wy.cell? ⟨w1.heap.size,1,none⟩=some (.string t.st):=by rw [qad b5];rfl
      have y2':wy.cell? ⟨w1.heap.size,2,none⟩=some (.slice Am (evA t.evs).size cm):=by rw [qad b5];rfl
      have y3':wy.cell? ⟨w1.heap.size,3,none⟩=some (.bool false):=by rw [qad b5];rfl
      have y4':wy.frozen? ⟨w1.heap.size,3,none⟩=false:=Lib.frozen_of_heap b5 3
      have l5':w1.heap.size < wy.heap.size:=qaa b5
      have b2:wy.heap[w.heap.size]?=some (.cells (qav zT (.slice none 0 0) false) 101 (0,0)):=(HRT.out.bel.block _ hlt1).trans HW2.out
      have x0:wy.cell? ⟨w.heap.size,0,none⟩=some (.int .i64 0):=by rw [qad b2];rfl
      have x1:wy.cell? ⟨w.heap.size,1,none⟩=some (.string ⟨#[]⟩):=by rw [qad b2];rfl
      have x2:wy.cell? ⟨w.heap.size,2,none⟩=some (.slice none 0 0):=by rw [qad b2];rfl
      have x3:wy.cell? ⟨w.heap.size,3,none⟩=some (.bool false):=by rw [qad b2];rfl
      have f0':wy.frozen? ⟨w.heap.size,0,none⟩=false:=Lib.frozen_of_heap b2 0
      have f1':wy.frozen? ⟨w.heap.size,1,none⟩=false:=Lib.frozen_of_heap b2 1
      have f2':wy.frozen? ⟨w.heap.size,2,none⟩=false:=Lib.frozen_of_heap b2 2
      have f3':wy.frozen? ⟨w.heap.size,3,none⟩=false:=Lib.frozen_of_heap b2 3
      have l2':w.heap.size < wy.heap.size:=qaa b2
      have hne2:w1.heap.size≠w.heap.size:=Nat.ne_of_gt hlt1
      have hne3:w.heap.size≠w1.heap.size:=Nat.ne_of_lt hlt1
      have HB2:=hI b2
      clear b5 b2
      obtain ⟨q,hq⟩:∃ q:Bool,decide (t.n=s.size)=q:=⟨_,rfl⟩
      have HQ:=hI hq
      clear hq
      cases q
      ·have hne:((t.n:Int) == (s.size:Int))=false:=by have:=of_decide_eq_false HQ.out;simp;omega
       go_wp2
       refine bodyPost_ret (v:=.agg (qav t (.slice Am (evA t.evs).size cm) false)) (qbc (t:=2) rfl rfl ((Below.heap_alloc _ _ _ (by simpa [World.setCell] using l2')).trans (qbe HB2.out hne3))) rfl ?_
       exact TellP.alloc (qbq HB1.out HRT.out.bel HRT.out.row HQ.out.symm HTQ.out hlt1 _ _ _ _ _) _
      ·have hne:((t.n:Int) == (s.size:Int))=true:=by have:=of_decide_eq_true HQ.out;simp;omega
       go_wp2
       refine bodyPost_ret (v:=.agg (qav t (.slice Am (evA t.evs).size cm) true)) (qbc (t:=2) rfl rfl ((Below.heap_alloc _ _ _ (by simpa [World.setCell] using l2')).trans (qbe HB2.out hne3))) rfl ?_
       exact TellP.alloc (qbq HB1.out HRT.out.bel HRT.out.row HQ.out.symm HTQ.out hlt1 _ _ _ _ _) _
   ·have HTQ:Hid (qdb s.data.toList=t):=by show _=_;rw [HT.out,qby (qsm hrt)]
    obtain rfl:=hr0 hrt
    have hez:(((rtC bd:Nat):Int) != 0)=true:=by simp;omega
    have HRT:Hid (RoundT 101 w1.heap.size t Am cm w1 wy):=⟨HXY.out,HOY.out,HBY.out,HSY.out⟩
    unfold recV zR
    clear hr0 hr1 HTK1 hrt
    clear HT HS HXY HOY HBY HSY
    have b5:=HRT.out.box
    have y0':wy.cell? ⟨w1.heap.size,0,none⟩=some (.int .i64 (t.ep:Int)):=by rw [qad b5];rfl
    have y1':wy.cell? ⟨w1.heap.size,1,none⟩=some (.string t.st):=by rw [qad b5];rfl
    have y2':wy.cell? ⟨w1.heap.size,2,none⟩=some (.slice Am (evA t.evs).size cm):=by rw [qad b5];rfl
    have y3':wy.cell? ⟨w1.heap.size,3,none⟩=some (.bool false):=by rw [qad b5];rfl
    have y4':wy.frozen? ⟨w1.heap.size,3,none⟩=false:=Lib.frozen_of_heap b5 3
    have l5':w1.heap.size < wy.heap.size:=qaa b5
    have b2:wy.heap[w.heap.size]?=some (.cells (qav zT (.slice none 0 0) false) 101 (0,0)):=(HRT.out.bel.block _ hlt1).trans HW2.out
    have x0:wy.cell? ⟨w.heap.size,0,none⟩=some (.int .i64 0):=by rw [qad b2];rfl
    have x1:wy.cell? ⟨w.heap.size,1,none⟩=some (.string ⟨#[]⟩):=by rw [qad b2];rfl
    have x2:wy.cell? ⟨w.heap.size,2,none⟩=some (.slice none 0 0):=by rw [qad b2];rfl
    have x3:wy.cell? ⟨w.heap.size,3,none⟩=some (.bool false):=by rw [qad b2];rfl
    have f0':wy.frozen? ⟨w.heap.size,0,none⟩=false:=Lib.frozen_of_heap b2 0
    have f1':wy.frozen? ⟨w.heap.size,1,none⟩=false:=Lib.frozen_of_heap b2 1
    have f2':wy.frozen? ⟨w.heap.size,2,none⟩=false:=Lib.frozen_of_heap b2 2
    have f3':wy.frozen? ⟨w.heap.size,3,none⟩=false:=Lib.frozen_of_heap b2 3
    have l2':w.heap.size < wy.heap.size:=qaa b2
    have hne2:w1.heap.size≠w.heap.size:=Nat.ne_of_gt hlt1
    have hne3:w.heap.size≠w1.heap.size:=Nat.ne_of_lt hlt1
    have HB2:=hI b2
    clear b5 b2
    obtain ⟨q,hq⟩:∃ q:Bool,decide (t.n=s.size)=q:=⟨_,rfl⟩
    have HQ:=hI hq
    clear hq
    cases q
    ·have hne:((t.n:Int) == (s.size:Int))=false:=by have:=of_decide_eq_false HQ.out;simp;omega
     go_wp2
     refine bodyPost_ret (v:=.agg (qav t (.slice Am (evA t.evs).size cm) false)) (qbc (t:=2) rfl rfl ((Below.heap_alloc _ _ _ (by simpa [World.setCell] using l2')).trans (qbe HB2.out hne3))) rfl ?_
     exact TellP.alloc (qbq HB1.out HRT.out.bel HRT.out.row HQ.out.symm HTQ.out hlt1 _ _ _ _ _) _
    ·have hne:((t.n:Int) == (s.size:Int))=true:=by have:=of_decide_eq_true HQ.out;simp;omega
     go_wp2
     refine bodyPost_ret (v:=.agg (qav t (.slice Am (evA t.evs).size cm) true)) (qbc (t:=2) rfl rfl ((Below.heap_alloc _ _ _ (by simpa [World.setCell] using l2')).trans (qbe HB2.out hne3))) rfl ?_
     exact TellP.alloc (qbq HB1.out HRT.out.bel HRT.out.row HQ.out.symm HTQ.out hlt1 _ _ _ _ _) _
  ·have kz:decide ((i:Int) < (bs.size:Int))=false:=by simp;omega
   have hie:i=bs.size:=by omega
   have HTQ:Hid (qdb s.data.toList=t):=by
    show _=_
    rw [HT.out,List.drop_of_length_le (by simp;omega)]
    rfl
   have HRT:Hid (RoundT 101 w1.heap.size t Am cm w1 wr):=⟨HX.out,HOW.out,HB.out,HSZW.out⟩
   clear hie
   clear HT HS HX HOW HB HSZW
   have b5:=HRT.out.box
   have y0':wr.cell? ⟨w1.heap.size,0,none⟩=some (.int .i64 (t.ep:Int)):=by rw [qad b5];rfl
   have y1':wr.cell? ⟨w1.heap.size,1,none⟩=some (.string t.st):=by rw [qad b5];rfl
   have y2':wr.cell? ⟨w1.heap.size,2,none⟩=some (.slice Am (evA t.evs).size cm):=by rw [qad b5];rfl
   have y3':wr.cell? ⟨w1.heap.size,3,none⟩=some (.bool false):=by rw [qad b5];rfl
   have y4':wr.frozen? ⟨w1.heap.size,3,none⟩=false:=Lib.frozen_of_heap b5 3
   have l5':w1.heap.size < wr.heap.size:=qaa b5
   have b2:wr.heap[w.heap.size]?=some (.cells (qav zT (.slice none 0 0) false) 101 (0,0)):=(HRT.out.bel.block _ hlt1).trans HW2.out
   have x0:wr.cell? ⟨w.heap.size,0,none⟩=some (.int .i64 0):=by rw [qad b2];rfl
   have x1:wr.cell? ⟨w.heap.size,1,none⟩=some (.string ⟨#[]⟩):=by rw [qad b2];rfl
   have x2:wr.cell? ⟨w.heap.size,2,none⟩=some (.slice none 0 0):=by rw [qad b2];rfl
   have x3:wr.cell? ⟨w.heap.size,3,none⟩=some (.bool false):=by rw [qad b2];rfl
   have f0':wr.frozen? ⟨w.heap.size,0,none⟩=false:=Lib.frozen_of_heap b2 0
   have f1':wr.frozen? ⟨w.heap.size,1,none⟩=false:=Lib.frozen_of_heap b2 1
   have f2':wr.frozen? ⟨w.heap.size,2,none⟩=false:=Lib.frozen_of_heap b2 2
   have f3':wr.frozen? ⟨w.heap.size,3,none⟩=false:=Lib.frozen_of_heap b2 3
   have l2':w.heap.size < wr.heap.size:=qaa b2
   have hne2:w1.heap.size≠w.heap.size:=Nat.ne_of_gt hlt1
   have hne3:w.heap.size≠w1.heap.size:=Nat.ne_of_lt hlt1
   have HB2:=hI b2
   clear b5 b2
   obtain ⟨q,hq⟩:∃ q:Bool,decide (t.n=s.size)=q:=⟨_,rfl⟩
   have HQ:=hI hq
   clear hq
   cases q
   ·have hne:((t.n:Int) == (s.size:Int))=false:=by have:=of_decide_eq_false HQ.out;simp;omega
    go_wp2
    refine bodyPost_ret (v:=.agg (qav t (.slice Am (evA t.evs).size cm) false)) (qbc (t:=2) rfl rfl (qbe HB2.out hne3)) rfl ?_
    exact qbq HB1.out HRT.out.bel HRT.out.row HQ.out.symm HTQ.out hlt1 _ _ _ _ _
   ·have hne:((t.n:Int) == (s.size:Int))=true:=by have:=of_decide_eq_true HQ.out;simp;omega
    go_wp2
    refine bodyPost_ret (v:=.agg (qav t (.slice Am (evA t.evs).size cm) true)) (qbc (t:=2) rfl rfl (qbe HB2.out hne3)) rfl ?_
    exact qbq HB1.out HRT.out.bel HRT.out.row HQ.out.symm HTQ.out hlt1 _ _ _ _ _
end Go.Proofs.YtjkecckndfcbjaaGreatDoor
