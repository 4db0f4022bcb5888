/- Texts that the law leans on. -/
import Derived.Test.YtjkecckndfcbjaaGreatDoorPWalA
import Derived.Test.YtjkecckndfcbjaaGreatDoorPMsgF
import Derived.Test.YtjkecckndfcbjaaGreatDoorPLftA
import Derived.Test.YtjkecckndfcbjaaGreatDoorPErrA
namespace Go.Proofs.YtjkecckndfcbjaaGreatDoor
open Go.RowKit Go.Sort Crc Nb
set_option maxRecDepth 100000
set_option maxHeartbeats 8000000 in
theorem qvw (s:ByteArray) (w:World) (hg:Glob w) (hs:s.size≤1000000) :
 Calls Tryz.prog 35 #[.string s] w (TellP s w):=by
 obtain ⟨i0,hi0,hz0,hz1,hz2⟩:=info_parts ev_info
 have HA:=hI (fAll_any s (w.alloc (.cells (qau zT (.slice none 0 0) false) 87)) hs)
 have HTK:Hid (∀ (b:List UInt8) (W:World),Below w.heap.size w W→b.length≤20000→Calls Tryz.prog 66 #[.string ⟨b.toArray⟩] W fun e w'=>(∃ r v ops,e=.returned (.tuple #[recV r,v])∧ErrV w' ops (rtC b:Int) v∧(rtC b≠0→r=zR)∧(rtC b=0→r=recO b))∧Below W.heap.size W w'):=fun b W hb hl=>by
  refine (qxf ⟨b.toArray⟩ W (hg.below hb) (by rw [qaz];omega)).mono ?_
  rintro e w' ⟨⟨r,v,ops,h1,h2,-,h3,h4⟩,hb'⟩
  exact ⟨⟨r,v,ops,h1,h2,fun h=>(h3 h).2,h4⟩,hb'⟩
 have HSZ:Hid (∀ (b:List UInt8) (W:World),b.length≤20000→Calls Tryz.prog 67 #[.string ⟨b.toArray⟩] W fun e w'=>e=.returned (.int .i64 ((qak b).length:Int))∧W=w'):=fun b W hl=>fSize_any ⟨b.toArray⟩ W (by rw [qaz];omega)
 obtain ⟨g1,g2,g3,g4⟩:=qfp s.data.toList
 have g5:=qiz s.data.toList
 have elen:s.data.toList.length=s.size:=by simp
 rw [elen] at g4 g5
 obtain ⟨bs,hbs⟩:∃ bs:Array (List UInt8),(allL s.data.toList).1.toArray=bs:=⟨_,rfl⟩
 have hbl:(allL s.data.toList).1=bs.toList:=by rw [←hbs]
 have HTE:Hid (qdh s.data.toList=qeb zT 0 (bs.toList.drop 0)):=by show _=_;rw [List.drop_zero,←hbl];rfl
 have HFW:Hid (∀ i,i < bs.size→bs[i]!.length≤20000):=fun i hi=>by
  refine g1 _ ?_
  rw [hbl,getElem!_pos bs i hi]
  exact Array.getElem_mem_toList hi
 have hbz:bs.size≤200000:=by
  have:(allL s.data.toList).1.length=bs.size:=by rw [hbl];simp
  omega
 have HSM:Hid (zT.n + ((bs.toList.drop 0).flatMap qak).length≤s.size):=by
  show _≤_
  rw [List.drop_zero,←hbl,←g2]
  show 0 + _≤_
  omega
 unfold AllF at HA
 rw [hbs] at HA
 clear g1 g2 g3 g4 g5 elen hbs hbl hg
 go_enter Tryz.func35,Tryz.ntmps35
 go_wp2_with fail
 refine HA.out.mono ?_
 rintro e w1 ⟨vB,rfl,hownB,hb1⟩
 obtain ⟨AB,cB,rfl,hrB,_⟩:=qbo hownB
 have HRB:=hI hrB
 have HB1:=hI (qad (bel1 w (.cells (qau zT (.slice none 0 0) false) 87)) hb1)
 have HW2:Hid (w1.heap[w.heap.size]?=some (.cells (qau zT (.slice none 0 0) false) 87 (0,0))):=(hb1.block _ (by simp)).trans (qas w _)
 have hlt1:w.heap.size < w1.heap.size:=by have:=hb1.size;simp at this;omega
 clear hownB hrB hb1 HA
 go_upto_region 4 with (fail)
 obtain ⟨w2,hw2⟩:∃ W,w1.alloc (.cells #[.int .i64 0,.string ⟨#[]⟩,.slice none 0 0,.bool false] 87)=W:=⟨_,rfl⟩
 have HX0:Hid (w2.heap[w1.heap.size]?=some (.cells (qau zT (.slice none 0 0) false) 87 (0,0))):=by rw [←hw2];exact qas w1 _
 have HBA:Hid (Below w1.heap.size w1 w2):=by rw [←hw2];exact bel1 w1 _
 have hsz0:w2.heap.size=w1.heap.size + 1:=by rw [←hw2];simp
 rw [hw2]
 clear hw2
 go_wp2_with fail
 go_loopw [6,18] (fun en iv wr=>∃ (i:Nat) (t:TL) (Am:Option Addr) (cm:Nat),iv=.int .i64 (i:Int)∧en=.int .i64 (t.n:Int)∧i≤bs.size∧t.evs.length≤i∧Hid (qdh s.data.toList=qeb t i (bs.toList.drop i))∧Hid (t.n + ((bs.toList.drop i).flatMap qak).length≤s.size)∧Hid (wr.heap[w1.heap.size]?=some (.cells (qau t (.slice Am (evA t.evs).size cm) false) 87 (0,0)))∧Hid (wr.ownsRow (w1.heap.size + 1) 56 2 (.slice Am (evA t.evs).size cm) (evA t.evs).size (flatK qbx 2 (evA t.evs)).toList)∧Hid (Below w1.heap.size w1 wr)∧Hid (w1.heap.size + 1≤wr.heap.size)) (fun _ i _=>bs.size - (intOf i).toNat)
 case atStart=>exact ⟨0,zT,none,0,rfl,rfl,Nat.zero_le _,Nat.le_refl _,HTE,HSM,HX0,qec _ _ _ _ _,HBA,Nat.le_of_eq hsz0.symm⟩
 case round =>
  obtain ⟨i,t,Am,cm,rfl,rfl,hi,hel,HT,HS,HX,HOW,HB,HSZW⟩:=hrel
  by_cases hlt:i < bs.size
  ·have kz:(i:Int) < (bs.size:Int):=by omega
   rw [qrm hlt] at HT HS
   obtain ⟨blk,off,rfl,hblk,f⟩:=(HRB.out.below HB.out).at_ (i:=i) hlt
   have f0:=f 0 (by omega)
   have hbl:=HFW.out i hlt
   clear f
   generalize bs[i]! = bd at f0 HT HS hbl
   simp only [Nat.add_zero,Nat.mul_one,eS,List.getElem!_cons_zero] at f0
   have HFL:Hid (t.n + (qak bd).length + ((bs.toList.drop (i + 1)).flatMap qak).length≤s.size):=by
    show _≤_
    have:=HS.out
    rw [List.flatMap_cons,List.length_append] at this
    omega
   have hfl:t.n + (qak bd).length≤1000000:=by have:=HFL.out;omega
   have HTK1:=hI (HTK.out bd wr (HB1.out.trans (HB.out.mono (Nat.le_of_lt hlt1))) hbl)
   have HSZ1:=hI (fun (W:World)=>HSZ.out bd W hbl)
   go_wp2_with fail
   refine HTK1.out.mono ?_
   rintro e wy ⟨⟨r,v,ops,rfl,hv,hr0,hr1⟩,hby⟩
   have HBY:=hI (HB.out.trans (hby.mono (by have:=HSZW.out;omega)))
   have HXY:Hid (wy.heap[w1.heap.size]?=some (.cells (qau t (.slice Am (evA t.evs).size cm) false) 87 (0,0))):=(hby.block _ (by have:=HSZW.out;omega)).trans HX.out
   have HOY:=hI (qat HOW.out hby)
   have HSY:Hid (w1.heap.size + 1≤wy.heap.size):=Nat.le_trans HSZW.out hby.size
   clear HX HOW HB HSZW hby
   by_cases hrt:rtC bd=0
   ·obtain rfl:=hr1 hrt
    rw [hrt] at hv
    obtain rfl:v=.nilIface:=qef hv
    have HRE:=hI (recO_ep hrt)
    have HN0:=hI (fun h0:i=0=>by subst h0;exact nextB_0 (t:=t) hrt)
    have HNS:=hI (fun h0:i≠0=>nextB_s (t:=t) hrt h0)
    have HWB:Hid (qiv t i bd=if i=0 then ⟨(recO bd).ep.toNat,(recO bd).st,t.evs,t.n + (qak bd).length⟩ else ⟨t.ep,t.st,t.evs ++ [((recO bd).k,(recO bd).dt)],t.n + (qak bd).length⟩):=rfl
    generalize recO bd=r at HRE HN0 HNS HWB
    obtain ⟨ep,sq,sn,k,dt,st⟩:=r
    unfold recV
    dsimp only at HRE HN0 HNS HWB ⊢
    clear hv hr0 hr1 HTK1
    have b5:=HXY.out
    have y0:wy.cell? ⟨w1.heap.size,0,none⟩=some (.int .i64 (t.ep:Int)):=by rw [qac b5];rfl
    have y1:wy.cell? ⟨w1.heap.size,1,none⟩=some (.string t.st):=by rw [qac b5];rfl
    have y2:wy.cell? ⟨w1.heap.size,2,none⟩=some (.slice Am (evA t.evs).size cm):=by rw [qac b5];rfl
    have z0:wy.frozen? ⟨w1.heap.size,0,none⟩=false:=Lib.frozen_of_heap b5 0
    have z1:wy.frozen? ⟨w1.heap.size,1,none⟩=false:=Lib.frozen_of_heap b5 1
    have z2:wy.frozen? ⟨w1.heap.size,2,none⟩=false:=Lib.frozen_of_heap b5 2
    have l5:w1.heap.size < wy.heap.size:=qaa b5
    clear b5
    have HRT:Hid (RoundT 87 w1.heap.size t Am cm w1 wy):=⟨HXY.out,HOY.out,HBY.out,HSY.out⟩
    have hes:(evA t.evs).size≤200000:=by rw [qbu];omega
    by_cases h0:i=0
    ·subst h0
     have hN:=HN0.out rfl
     obtain ⟨n,rfl⟩:∃ n:Nat,ep=(n:Int):=⟨ep.toNat,by have:=HRE.out;omega⟩
     cases sn
     ·have HTQ:Hid (qdh s.data.toList=t):=by show _=_;rw [HT.out,qbs hN]
      clear HWB HN0 HNS hN HRE HT HS HXY HOY HBY HSY
      have b5:=HRT.out.box
      have y0':wy.cell? ⟨w1.heap.size,0,none⟩=some (.int .i64 (t.ep:Int)):=by rw [qac b5];rfl
      have y1':wy.cell? ⟨w1.heap.size,1,none⟩=some (.string t.st):=by rw [qac b5];rfl
      have y2':wy.cell? ⟨w1.heap.size,2,none⟩=some (.slice Am (evA t.evs).size cm):=by rw [qac b5];rfl
      have y3':wy.cell? ⟨w1.heap.size,3,none⟩=some (.bool false):=by rw [qac b5];rfl
      have y4':wy.frozen? ⟨w1.heap.size,3,none⟩=false:=Lib.frozen_of_heap b5 3
      have l5':w1.heap.size < wy.heap.size:=qaa b5
      have b2:wy.heap[w.heap.size]?=some (.cells (qau zT (.slice none 0 0) false) 87 (0,0)):=(HRT.out.bel.block _ hlt1).trans HW2.out
      have x0:wy.cell? ⟨w.heap.size,0,none⟩=some (.int .i64 0):=by rw [qac b2];rfl
      have x1:wy.cell? ⟨w.heap.size,1,none⟩=some (.string ⟨#[]⟩):=by rw [qac b2];rfl
      have x2:wy.cell? ⟨w.heap.size,2,none⟩=some (.slice none 0 0):=by rw [qac b2];rfl
      have x3:wy.cell? ⟨w.heap.size,3,none⟩=some (.bool false):=by rw [qac b2];rfl
      have f0':wy.frozen? ⟨w.heap.size,0,none⟩=false:=Lib.frozen_of_heap b2 0
      have f1':wy.frozen? ⟨w.heap.size,1,none⟩=false:=Lib.frozen_of_heap b2 1
      have f2':wy.frozen? ⟨w.heap.size,2,none⟩=false:=Lib.frozen_of_heap b2 2
      have f3':wy.frozen? ⟨w.heap.size,3,none⟩=false:=Lib.frozen_of_heap b2 3
      have l2':w.heap.size < wy.heap.size:=qaa b2
      have hne2:w1.heap.size≠w.heap.size:=Nat.ne_of_gt hlt1
      have hne3:w.heap.size≠w1.heap.size:=Nat.ne_of_lt hlt1
      have HB2:=hI b2
      clear b5 b2
      obtain ⟨q,hq⟩:∃ q:Bool,decide (t.n=s.size)=q:=⟨_,rfl⟩
      have HQ:=hI hq
      clear hq
      cases q
      ·have hne:((t.n:Int) == (s.size:Int))=false:=by have:=of_decide_eq_false HQ.out;simp;omega
       go_wp2
       refine bodyPost_ret (v:=.agg (qau t (.slice Am (evA t.evs).size cm) false)) (qbe (t:=2) rfl rfl ((Below.heap_alloc _ _ _ (by simpa [World.setCell] using l2')).trans (qbc HB2.out hne3))) rfl ?_
       exact TellP.alloc (qbm HB1.out HRT.out.bel HRT.out.row HQ.out.symm HTQ.out hlt1 _ _ _ _ _) _
      ·have hne:((t.n:Int) == (s.size:Int))=true:=by have:=of_decide_eq_true HQ.out;simp;omega
       go_wp2
       refine bodyPost_ret (v:=.agg (qau t (.slice Am (evA t.evs).size cm) true)) (qbe (t:=2) rfl rfl ((Below.heap_alloc _ _ _ (by simpa [World.setCell] using l2')).trans (qbc HB2.out hne3))) rfl ?_
       exact TellP.alloc (qbm HB1.out HRT.out.bel HRT.out.row HQ.out.symm HTQ.out hlt1 _ _ _ _ _) _
     ·have HTQ:Hid (qdh s.data.toList=qeb ⟨n,st,t.evs,t.n + (qak bd).length⟩ 1 (bs.toList.drop 1)):=by
       show _=_
       rw [HT.out,qel hN,HWB.out,if_pos rfl]
       simp
      clear HWB HN0 HNS hN HRE HT HS HXY HOY HBY HSY
      go_wp2_with fail
      go_region
      go_wp2_with ((go_at_call 67;refine (HSZ1.out _).mono ?_;rintro _ wq ⟨rfl,hq⟩;have hbq:=qlm hq;clear hq))
      have HQ:=hI ((((HRT.out.first (n:=n) (st:=st) (k:=t.n + (qak bd).length)).alloc (.cells #[.int .i64 (n:Int),.int .i64 sq,.bool true,.int .i64 k,.string dt,.string st] 128)).drew).below hbq)
      clear hbq
      go_roundw
      case rel=>exact ⟨1,⟨n,st,t.evs,t.n + (qak bd).length⟩,Am,cm,by go_num,by go_num,by omega,by show t.evs.length≤1;omega,HTQ,HFL,HQ.out.box,HQ.out.row,HQ.out.bel,HQ.out.size⟩
      case measure=>simp [intOf];omega
    ·have hz:((i:Int) == 0)=false:=by simp;omega
     have hp:0 < i:=by omega
     have hN:=HNS.out h0
     cases sn
     ·by_cases h1:ep=(t.ep:Int)
      ·subst h1
       by_cases h2:sq=(i:Int)
       ·subst h2
        have HTQ:Hid (qdh s.data.toList=qeb ⟨t.ep,t.st,t.evs ++ [(k,dt)],t.n + (qak bd).length⟩ (i + 1) (bs.toList.drop (i + 1))):=by
         show _=_
         rw [HT.out,qel (by rw [hN];simp),HWB.out,if_neg h0]
        clear HWB HN0 HNS hN HRE HT HS HXY HOY HBY HSY
        have hrow:=HRT.out.row
        go_wp2_with (first | (at_builtin;refine wpList_append_own _ rfl _ _ 37 rfl (w1.heap.size + 1) 56 i0 (.agg #[.int .i64 0,.string ⟨#[]⟩]) 2 24 Tryz.underlying37 hi0 hz0 hz1 hz2 rfl (by decide) _ _ _ rfl ((hrow.alloc (.cells #[.int .i64 (t.ep:Int),.int .i64 (i:Int),.bool false,.int .i64 k,.string dt,.string st] 128)).alloc _) ⟨wy.heap.size + 1,0,none⟩ 1 1 [.int .i64 k,.string dt] rfl rfl (newF2 (wy.alloc (.cells #[.int .i64 (t.ep:Int),.int .i64 (i:Int),.bool false,.int .i64 k,.string dt,.string st] 128)) _ _ _ (by simp)) (by simp [Value.oneCell']) (by unfold maxLen;omega) (by omega) (by simp <;> omega) ?_;intro v' w4 hown' hgrow _;obtain ⟨g',cap',rfl⟩:=ownsRow_succ hown';have HQ1:=hI ((HRT.out.alloc (.cells #[.int .i64 (t.ep:Int),.int .i64 (i:Int),.bool false,.int .i64 k,.string dt,.string st] 128)).next (k:=t.n + (qak bd).length) (e:=(k,dt)) hown' hgrow);have b4:=qhg (HRT.out.alloc (.cells #[.int .i64 (t.ep:Int),.int .i64 (i:Int),.bool false,.int .i64 k,.string dt,.string st] 128)).box (HRT.out.alloc _).row (Nat.lt_succ_self _) hgrow;have y24:w4.cell? ⟨w1.heap.size,2,none⟩=some (.slice Am (evA t.evs).size cm):=(by rw [qac b4];rfl);have z24:w4.frozen? ⟨w1.heap.size,2,none⟩=false:=Lib.frozen_of_heap b4 2;clear b4) | (go_at_call 67;refine (HSZ1.out _).mono ?_;rintro _ wq ⟨rfl,hq⟩;have hbq:=qlm hq;clear hq))
        have HQ:=hI (HQ1.out.below hbq)
        clear hbq HQ1
        go_roundw
        case rel=>exact ⟨i + 1,⟨t.ep,t.st,t.evs ++ [(k,dt)],t.n + (qak bd).length⟩,_,_,by go_num,by go_num,by omega,by simp;omega,HTQ,HFL,HQ.out.box,HQ.out.row,HQ.out.bel,HQ.out.size⟩
        case measure=>simp [intOf];omega
       ·have h2':(sq != (i:Int))=true:=by simpa using h2
        have HTQ:Hid (qdh s.data.toList=t):=by show _=_;rw [HT.out,qbs (by rw [hN];simp [h2])]
        clear HWB HN0 HNS hN HRE HT HS HXY HOY HBY HSY
        have b5:=HRT.out.box
        have y0':wy.cell? ⟨w1.heap.size,0,none⟩=some (.int .i64 (t.ep:Int)):=by rw [qac b5];rfl
        have y1':wy.cell? ⟨w1.heap.size,1,none⟩=some (.string t.st):=by rw [qac b5];rfl
        have y2':wy.cell? ⟨w1.heap.size,2,none⟩=some (.slice Am (evA t.evs).size cm):=by rw [qac b5];rfl
        have y3':wy.cell? ⟨w1.heap.size,3,none⟩=some (.bool false):=by rw [qac b5];rfl
        have y4':wy.frozen? ⟨w1.heap.size,3,none⟩=false:=Lib.frozen_of_heap b5 3
        have l5':w1.heap.size < wy.heap.size:=qaa b5
        have b2:wy.heap[w.heap.size]?=some (.cells (qau zT (.slice none 0 0) false) 87 (0,0)):=(HRT.out.bel.block _ hlt1).trans HW2.out
        have x0:wy.cell? ⟨w.heap.size,0,none⟩=some (.int .i64 0):=by rw [qac b2];rfl
        have x1:wy.cell? ⟨w.heap.size,1,none⟩=some (.string ⟨#[]⟩):=by rw [qac b2];rfl
        have x2:wy.cell? ⟨w.heap.size,2,none⟩=some (.slice none 0 0):=by rw [qac b2];rfl
        have x3:wy.cell? ⟨w.heap.size,3,none⟩=some (.bool false):=by rw [qac b2];rfl
        have f0':wy.frozen? ⟨w.heap.size,0,none⟩=false:=Lib.frozen_of_heap b2 0
        have f1':wy.frozen? ⟨w.heap.size,1,none⟩=false:=Lib.frozen_of_heap b2 1
        have f2':wy.frozen? ⟨w.heap.size,2,none⟩=false:=Lib.frozen_of_heap b2 2
        have f3':wy.frozen? ⟨w.heap.size,3,none⟩=false:=Lib.frozen_of_heap b2 3
        have l2':w.heap.size < wy.heap.size:=qaa b2
        have hne2:w1.heap.size≠w.heap.size:=Nat.ne_of_gt hlt1
        have hne3:w.heap.size≠w1.heap.size:=Nat.ne_of_lt hlt1
        have HB2:=hI b2
        clear b5 b2
        obtain ⟨q,hq⟩:∃ q:Bool,decide (t.n=s.size)=q:=⟨_,rfl⟩
        have HQ:=hI hq
        clear hq
        cases q
        ·have hne:((t.n:Int) == (s.size:Int))=false:=by have:=of_decide_eq_false HQ.out;simp;omega
         go_wp2
         refine bodyPost_ret (v:=.agg (qau t (.slice Am (evA t.evs).size cm) false)) (qbe (t:=2) rfl rfl ((Below.heap_alloc _ _ _ (by simpa [World.setCell] using l2')).trans (qbc HB2.out hne3))) rfl ?_
         exact TellP.alloc (qbm HB1.out HRT.out.bel HRT.out.row HQ.out.symm HTQ.out hlt1 _ _ _ _ _) _
        ·have hne:((t.n:Int) == (s.size:Int))=true:=by have:=of_decide_eq_true HQ.out;simp;omega
         go_wp2
         refine bodyPost_ret (v:=.agg (qau t (.slice Am (evA t.evs).size cm) true)) (qbe (t:=2) rfl rfl ((Below.heap_alloc _ _ _ (by simpa [World.setCell] using l2')).trans (qbc HB2.out hne3))) rfl ?_
         exact TellP.alloc (qbm HB1.out HRT.out.bel HRT.out.row HQ.out.symm HTQ.out hlt1 _ _ _ _ _) _
      ·have h1':(ep != (t.ep:Int))=true:=by simpa using h1
       have HTQ:Hid (qdh s.data.toList=t):=by show _=_;rw [HT.out,qbs (by rw [hN];simp [h1])]
       clear HWB HN0 HNS hN HRE HT HS HXY HOY HBY HSY
       have b5:=HRT.out.box
       have y0':wy.cell? ⟨w1.heap.size,0,none⟩=some (.int .i64 (t.ep:Int)):=by rw [qac b5];rfl
       have y1':wy.cell? ⟨w1.heap.size,1,none⟩=some (.string t.st):=by rw [qac b5];rfl
       have y2':wy.cell? ⟨w1.heap.size,2,none⟩=some (.slice Am (evA t.evs).size cm):=by rw [qac b5];rfl
       have y3':wy.cell? ⟨w1.heap.size,3,none⟩=some (.bool false):=by rw [qac b5];rfl
       have y4':wy.frozen? ⟨w1.heap.size,3,none⟩=false:=Lib.frozen_of_heap b5 3
       have l5':w1.heap.size < wy.heap.size:=qaa b5
       have b2:wy.heap[w.heap.size]?=some (.cells (qau zT (.slice none 0 0) false) 87 (0,0)):=(HRT.out.bel.block _ hlt1).trans HW2.out
       have x0:wy.cell? ⟨w.heap.size,0,none⟩=some (.int .i64 0):=by rw [qac b2];rfl
       have x1:wy.cell? ⟨w.heap.size,1,none⟩=some (.string ⟨#[]⟩):=by rw [qac b2];rfl
       have x2:wy.cell? ⟨w.heap.size,2,none⟩=some (.slice none 0 0):=by rw [qac b2];rfl
       have x3:wy.cell? ⟨w.heap.size,3,none⟩=some (.bool false):=by rw [qac b2];rfl
       have f0':wy.frozen? ⟨w.heap.size,0,none⟩=false:=Lib.frozen_of_heap b2 0
       have f1':wy.frozen? ⟨w.heap.size,1,none⟩=false:=Lib.frozen_of_heap b2 1
       have f2':wy.frozen? ⟨w.heap.size,2,none⟩=false:=Lib.frozen_of_heap b2 2
       have f3':wy.frozen? ⟨w.heap.size,3,none⟩=false:=Lib.frozen_of_heap b2 3
       have l2':w.heap.size < wy.heap.size:=qaa b2
       have hne2:w1.heap.size≠w.heap.size:=Nat.ne_of_gt hlt1
       have hne3:w.heap.size≠w1.heap.size:=Nat.ne_of_lt hlt1
       have HB2:=hI b2
       clear b5 b2
       obtain ⟨q,hq⟩:∃ q:Bool,decide (t.n=s.size)=q:=⟨_,rfl⟩
       have HQ:=hI hq
       clear hq
       cases q
       ·have hne:((t.n:Int) == (s.size:Int))=false:=by have:=of_decide_eq_false HQ.out;simp;omega
        go_wp2
        refine bodyPost_ret (v:=.agg (qau t (.slice Am (evA t.evs).size cm) false)) (qbe (t:=2) rfl rfl ((Below.heap_alloc _ _ _ (by simpa [World.setCell] using l2')).trans (qbc HB2.out hne3))) rfl ?_
        exact TellP.alloc (qbm HB1.out HRT.out.bel HRT.out.row HQ.out.symm HTQ.out hlt1 _ _ _ _ _) _
       ·have hne:((t.n:Int) == (s.size:Int))=true:=by have:=of_decide_eq_true HQ.out;simp;omega
        go_wp2
        refine bodyPost_ret (v:=.agg (qau t (.slice Am (evA t.evs).size cm) true)) (qbe (t:=2) rfl rfl ((Below.heap_alloc _ _ _ (by simpa [World.setCell] using l2')).trans (qbc HB2.out hne3))) rfl ?_
        exact TellP.alloc (qbm HB1.out HRT.out.bel HRT.out.row HQ.out.symm HTQ.out hlt1 _ _ _ _ _) _
     ·have HTQ:Hid (qdh s.data.toList=t):=by show _=_;rw [HT.out,qbs (by rw [hN];simp)]
      clear HWB HN0 HNS hN HRE HT HS HXY HOY HBY HSY
      have b5:=HRT.out.box
      have y0':wy.cell? ⟨w1.heap.size,0,none⟩=some (.int .i64 (t.ep:Int)):=by rw [qac b5];rfl
      have y1':wy.cell? ⟨w1.heap.size,1,none⟩=some (.string t.st):=by rw [qac b5];rfl
      have y2':wy.cell? ⟨w1.heap.size,2,none⟩=some (.slice Am (evA t.evs).size cm):=by rw [qac b5];rfl
      have y3':wy.cell? ⟨w1.heap.size,3,none⟩=some (.bool false):=by rw [qac b5];rfl
      have y4':wy.frozen? ⟨w1.heap.size,3,none⟩=false:=Lib.frozen_of_heap b5 3
      have l5':w1.heap.size < wy.heap.size:=qaa b5
      have b2:wy.heap[w.heap.size]?=some (.cells (qau zT (.slice none 0 0) false) 87 (0,0)):=(HRT.out.bel.block _ hlt1).trans HW2.out
      have x0:wy.cell? ⟨w.heap.size,0,none⟩=some (.int .i64 0):=by rw [qac b2];rfl
      have x1:wy.cell? ⟨w.heap.size,1,none⟩=some (.string ⟨#[]⟩):=by rw [qac b2];rfl
      have x2:wy.cell? ⟨w.heap.size,2,none⟩=some (.slice none 0 0):=by rw [qac b2];rfl
      have x3:wy.cell? ⟨w.heap.size,3,none⟩=some (.bool false):=by rw [qac b2];rfl
      have f0':wy.frozen? ⟨w.heap.size,0,none⟩=false:=Lib.frozen_of_heap b2 0
      have f1':wy.frozen? ⟨w.heap.size,1,none⟩=false:=Lib.frozen_of_heap b2 1
      have f2':wy.frozen? ⟨w.heap.size,2,none⟩=false:=Lib.frozen_of_heap b2 2
      have f3':wy.frozen? ⟨w.heap.size,3,none⟩=false:=Lib.frozen_of_heap b2 3
      have l2':w.heap.size < wy.heap.size:=qaa b2
      have hne2:w1.heap.size≠w.heap.size:=Nat.ne_of_gt hlt1
      have hne3:w.heap.size≠w1.heap.size:=Nat.ne_of_lt hlt1
      have HB2:=hI b2
      clear b5 b2
      obtain ⟨q,hq⟩:∃ q:Bool,decide (t.n=s.size)=q:=⟨_,rfl⟩
      have HQ:=hI hq
      clear hq
      cases q
      ·have hne:((t.n:Int) == (s.size:Int))=false:=by have:=of_decide_eq_false HQ.out;simp;omega
       go_wp2
       refine bodyPost_ret (v:=.agg (qau t (.slice Am (evA t.evs).size cm) false)) (qbe (t:=2) rfl rfl ((Below.heap_alloc _ _ _ (by simpa [World.setCell] using l2')).trans (qbc HB2.out hne3))) rfl ?_
       exact TellP.alloc (qbm HB1.out HRT.out.bel HRT.out.row HQ.out.symm HTQ.out hlt1 _ _ _ _ _) _
      ·have hne:((t.n:Int) == (s.size:Int))=true:=by have:=of_decide_eq_true HQ.out;simp;omega
       go_wp2
       refine bodyPost_ret (v:=.agg (qau t (.slice Am (evA t.evs).size cm) true)) (qbe (t:=2) rfl rfl ((Below.heap_alloc _ _ _ (by simpa [World.setCell] using l2')).trans (qbc HB2.out hne3))) rfl ?_
       exact TellP.alloc (qbm HB1.out HRT.out.bel HRT.out.row HQ.out.symm HTQ.out hlt1 _ _ _ _ _) _
   ·have HTQ:Hid (qdh s.data.toList=t):=by show _=_;rw [HT.out,qbs (qrl hrt)]
    obtain rfl:=hr0 hrt
    obtain ⟨t1,u1,rfl⟩:∃ t u,v=.iface t u:=qar (qdq hv (by omega))
    have HRT:Hid (RoundT 87 w1.heap.size t Am cm w1 wy):=⟨HXY.out,HOY.out,HBY.out,HSY.out⟩
    unfold recV zR
    clear hv hr0 hr1 HTK1 hrt
    clear HT HS HXY HOY HBY HSY
    have b5:=HRT.out.box
    have y0':wy.cell? ⟨w1.heap.size,0,none⟩=some (.int .i64 (t.ep:Int)):=by rw [qac b5];rfl
    have y1':wy.cell? ⟨w1.heap.size,1,none⟩=some (.string t.st):=by rw [qac b5];rfl
    have y2':wy.cell? ⟨w1.heap.size,2,none⟩=some (.slice Am (evA t.evs).size cm):=by rw [qac b5];rfl
    have y3':wy.cell? ⟨w1.heap.size,3,none⟩=some (.bool false):=by rw [qac b5];rfl
    have y4':wy.frozen? ⟨w1.heap.size,3,none⟩=false:=Lib.frozen_of_heap b5 3
    have l5':w1.heap.size < wy.heap.size:=qaa b5
    have b2:wy.heap[w.heap.size]?=some (.cells (qau zT (.slice none 0 0) false) 87 (0,0)):=(HRT.out.bel.block _ hlt1).trans HW2.out
    have x0:wy.cell? ⟨w.heap.size,0,none⟩=some (.int .i64 0):=by rw [qac b2];rfl
    have x1:wy.cell? ⟨w.heap.size,1,none⟩=some (.string ⟨#[]⟩):=by rw [qac b2];rfl
    have x2:wy.cell? ⟨w.heap.size,2,none⟩=some (.slice none 0 0):=by rw [qac b2];rfl
    have x3:wy.cell? ⟨w.heap.size,3,none⟩=some (.bool false):=by rw [qac b2];rfl
    have f0':wy.frozen? ⟨w.heap.size,0,none⟩=false:=Lib.frozen_of_heap b2 0
    have f1':wy.frozen? ⟨w.heap.size,1,none⟩=false:=Lib.frozen_of_heap b2 1
    have f2':wy.frozen? ⟨w.heap.size,2,none⟩=false:=Lib.frozen_of_heap b2 2
    have f3':wy.frozen? ⟨w.heap.size,3,none⟩=false:=Lib.frozen_of_heap b2 3
    have l2':w.heap.size < wy.heap.size:=qaa b2
    have hne2:w1.heap.size≠w.heap.size:=Nat.ne_of_gt hlt1
    have hne3:w.heap.size≠w1.heap.size:=Nat.ne_of_lt hlt1
    have HB2:=hI b2
    clear b5 b2
    obtain ⟨q,hq⟩:∃ q:Bool,decide (t.n=s.size)=q:=⟨_,rfl⟩
    have HQ:=hI hq
    clear hq
    cases q
    ·have hne:((t.n:Int) == (s.size:Int))=false:=by have:=of_decide_eq_false HQ.out;simp;omega
     go_wp2
     refine bodyPost_ret (v:=.agg (qau t (.slice Am (evA t.evs).size cm) false)) (qbe (t:=2) rfl rfl ((Below.heap_alloc _ _ _ (by simpa [World.setCell] using l2')).trans (qbc HB2.out hne3))) rfl ?_
     exact TellP.alloc (qbm HB1.out HRT.out.bel HRT.out.row HQ.out.symm HTQ.out hlt1 _ _ _ _ _) _
    ·have hne:((t.n:Int) == (s.size:Int))=true:=by have:=of_decide_eq_true HQ.out;simp;omega
     go_wp2
     refine bodyPost_ret (v:=.agg (qau t (.slice Am (evA t.evs).size cm) true)) (qbe (t:=2) rfl rfl ((Below.heap_alloc _ _ _ (by simpa [World.setCell] using l2')).trans (qbc HB2.out hne3))) rfl ?_
     exact TellP.alloc (qbm HB1.out HRT.out.bel HRT.out.row HQ.out.symm HTQ.out hlt1 _ _ _ _ _) _
  ·have kz:decide ((i:Int) < (bs.size:Int))=false:=by simp;omega
   have hie:i=bs.size:=by omega
   have HTQ:Hid (qdh s.data.toList=t):=by
    show _=_
    rw [HT.out,List.drop_of_length_le (by simp;omega)]
    rfl
   have HRT:Hid (RoundT 87 w1.heap.size t Am cm w1 wr):=⟨HX.out,HOW.out,HB.out,HSZW.out⟩
   clear hie
   clear HT HS HX HOW HB HSZW
   have b5:=HRT.out.box
   have y0':wr.cell? ⟨w1.heap.size,0,none⟩=some (.int .i64 (t.ep:Int)):=by rw [qac b5];rfl
   have y1':wr.cell? ⟨w1.heap.size,1,none⟩=some (.string t.st):=by rw [qac b5];rfl
   have y2':wr.cell? ⟨w1.heap.size,2,none⟩=some (.slice Am (evA t.evs).size cm):=by rw [qac b5];rfl
   have y3':wr.cell? ⟨w1.heap.size,3,none⟩=some (.bool false):=by rw [qac b5];rfl
   have y4':wr.frozen? ⟨w1.heap.size,3,none⟩=false:=Lib.frozen_of_heap b5 3
   have l5':w1.heap.size < wr.heap.size:=qaa b5
   have b2:wr.heap[w.heap.size]?=some (.cells (qau zT (.slice none 0 0) false) 87 (0,0)):=(HRT.out.bel.block _ hlt1).trans HW2.out
   have x0:wr.cell? ⟨w.heap.size,0,none⟩=some (.int .i64 0):=by rw [qac b2];rfl
   have x1:wr.cell? ⟨w.heap.size,1,none⟩=some (.string ⟨#[]⟩):=by rw [qac b2];rfl
   have x2:wr.cell? ⟨w.heap.size,2,none⟩=some (.slice none 0 0):=by rw [qac b2];rfl
   have x3:wr.cell? ⟨w.heap.size,3,none⟩=some (.bool false):=by rw [qac b2];rfl
   have f0':wr.frozen? ⟨w.heap.size,0,none⟩=false:=Lib.frozen_of_heap b2 0
   have f1':wr.frozen? ⟨w.heap.size,1,none⟩=false:=Lib.frozen_of_heap b2 1
   have f2':wr.frozen? ⟨w.heap.size,2,none⟩=false:=Lib.frozen_of_heap b2 2
   have f3':wr.frozen? ⟨w.heap.size,3,none⟩=false:=Lib.frozen_of_heap b2 3
   have l2':w.heap.size < wr.heap.size:=qaa b2
   have hne2:w1.heap.size≠w.heap.size:=Nat.ne_of_gt hlt1
   have hne3:w.heap.size≠w1.heap.size:=Nat.ne_of_lt hlt1
   have HB2:=hI b2
   clear b5 b2
   obtain ⟨q,hq⟩:∃ q:Bool,decide (t.n=s.size)=q:=⟨_,rfl⟩
   have HQ:=hI hq
   clear hq
   cases q
   ·have hne:((t.n:Int) == (s.size:Int))=false:=by have:=of_decide_eq_false HQ.out;simp;omega
    go_wp2
    refine bodyPost_ret (v:=.agg (qau t (.slice Am (evA t.evs).size cm) false)) (qbe (t:=2) rfl rfl (qbc HB2.out hne3)) rfl ?_
    exact qbm HB1.out HRT.out.bel HRT.out.row HQ.out.symm HTQ.out hlt1 _ _ _ _ _
   ·have hne:((t.n:Int) == (s.size:Int))=true:=by have:=of_decide_eq_true HQ.out;simp;omega
    go_wp2
    refine bodyPost_ret (v:=.agg (qau t (.slice Am (evA t.evs).size cm) true)) (qbe (t:=2) rfl rfl (qbc HB2.out hne3)) rfl ?_
    exact qbm HB1.out HRT.out.bel HRT.out.row HQ.out.symm HTQ.out hlt1 _ _ _ _ _
end Go.Proofs.YtjkecckndfcbjaaGreatDoor
namespace Go.Proofs.YtjkecckndfcbjaaGreatDoor
open Go.RowKit Go.Sort Crc Nb
set_option maxRecDepth 100000
def qco (a b:Nat):Int×Nat:=if a=0∧b=0 then (-1,0) else if a=b then (0,23) else if b < a then (0,0) else (1,0)
theorem qxl (s t:TL) (u v:Value) (p q:Bool) (w:World) :
 Calls Tryz.prog 36 #[.agg (qau s u p),.agg (qau t v q)] w fun e w'=>∃ x,e=.returned (.tuple #[.int .i64 (qco s.ep t.ep).1,x])∧ErrV w' (if (qco s.ep t.ep).2=0 then [] else [logW]) ((qco s.ep t.ep).2:Int) x∧Below w.heap.size w w':=by
 have HW:=hI (fun (W:World)=>qfm 23 W (by omega))
 have HB:=hI (qab (bel1 w (.cells (qau s u p) 87)) (.cells (qau t v q) 87))
 unfold qau at *
 obtain ⟨a,sa,sb,sc⟩:=s
 obtain ⟨b,ta,tb,tc⟩:=t
 dsimp only at *
 by_cases h0:a=0∧b=0
 ·obtain ⟨rfl,rfl⟩:=h0
  have HQ:Hid (qco 0 0=(-1,0)):=rfl
  rw [HQ.out]
  go_enter Tryz.func36,Tryz.ntmps36
  go_wp2
  refine bodyPost_ret (v:=.tuple #[.int .i64 (-1),.nilIface]) (by simp [results,Tryz.results36,go_sem]) rfl ⟨_,rfl,Or.inl ⟨rfl,rfl,rfl⟩,HB.out⟩
 ·by_cases h1:a=b
  ·have HQ:Hid (qco a b=(0,23)):=by show _=_;unfold qco;rw [if_neg h0,if_pos h1]
   rw [HQ.out]
   subst h1
   have h2:((a:Int) == 0)=false:=by simp;omega
   clear h0 HQ
   go_enter Tryz.func36,Tryz.ntmps36
   go_wp2_with (go_at_call 38;refine (HW.out _).mono ?_;rintro e w3 ⟨x,rfl,hch,hb3⟩;have HCH:=hI hch;have HB3:=hI (qad HB.out hb3);clear hch hb3)
   refine bodyPost_ret (v:=.tuple #[.int .i64 0,x]) (by simp [results,Tryz.results36,go_sem]) rfl ⟨_,rfl,Or.inr ⟨by decide,HCH.out⟩,HB3.out⟩
  ·have h1':((a:Int) == (b:Int))=false:=by simp;omega
   by_cases h2:b < a
   ·have HQ:Hid (qco a b=(0,0)):=by show _=_;unfold qco;rw [if_neg h0,if_neg h1,if_pos h2]
    rw [HQ.out]
    have h3:((a:Int) == 0)=false:=by simp;omega
    clear h0 HQ h1
    go_enter Tryz.func36,Tryz.ntmps36
    go_wp2
    refine bodyPost_ret (v:=.tuple #[.int .i64 0,.nilIface]) (by simp [results,Tryz.results36,go_sem]) rfl ⟨_,rfl,Or.inl ⟨rfl,rfl,rfl⟩,HB.out⟩
   ·have HQ:Hid (qco a b=(1,0)):=by show _=_;unfold qco;rw [if_neg h0,if_neg h1,if_neg h2]
    rw [HQ.out]
    have h3:((b:Int) == 0)=false:=by simp;omega
    have h4:decide (b < a)=false:=decide_eq_false h2
    clear h0 HQ h1
    by_cases ha:a=0
    ·subst ha
     go_enter Tryz.func36,Tryz.ntmps36
     go_wp2
     refine bodyPost_ret (v:=.tuple #[.int .i64 1,.nilIface]) (by simp [results,Tryz.results36,go_sem]) rfl ⟨_,rfl,Or.inl ⟨rfl,rfl,rfl⟩,HB.out⟩
    ·have h5:((a:Int) == 0)=false:=by simp;omega
     go_enter Tryz.func36,Tryz.ntmps36
     go_wp2
     refine bodyPost_ret (v:=.tuple #[.int .i64 1,.nilIface]) (by simp [results,Tryz.results36,go_sem]) rfl ⟨_,rfl,Or.inl ⟨rfl,rfl,rfl⟩,HB.out⟩
def qri (g:Nat) (x:OG) (w:World) (e:Ending) (w':World):Prop :=
 (x.e≠0∧(∃ v ops,e=.returned (.tuple #[.pointer none,.string ⟨#[]⟩,.slice none 0 0,v])∧ErrV w' ops (x.e:Int) v)∧DAt w' g x.l.d∧But g w w') ∨
 (x.e=0∧∃ h v,e=.returned (.tuple #[.pointer (some ⟨h,0,none⟩),.string x.st,v,.nilIface])∧w.heap.size≤h∧LAt w' h g x.l∧w'.ownsRow w.heap.size 56 2 v (evA x.evs).size (flatK qbx 2 (evA x.evs)).toList∧But g w w')
theorem But2.one {g h:Nat} {w w1 w2:World} (hb:But g w w1) (x:But2 g h w1 w2) (hh:w.heap.size≤h):But g w w2 :=
 ⟨x.os.trans hb.os,x.tape.trans hb.tape,x.output.trans hb.output,Nat.le_trans hb.size x.size,fun k hk hg=>(x.block k (Nat.lt_of_lt_of_le hk hb.size) hg (by omega)).trans (hb.block k hk hg)⟩
theorem qol {w w':World} {g h B s n:Nat} {e:TypeId} {v:Value} {xs:List Value} (hr:w.ownsRow B e s v n xs) (x:But2 g h w w') (hg:g < B) (hh:v.ownBlock≠some h):w'.ownsRow B e s v n xs:=by
 obtain ⟨h0,h1 | ⟨b,cap,cur,hv,hB,hk,hrr⟩⟩:=hr
 ·exact ⟨h0,Or.inl h1⟩
 ·refine ⟨h0,Or.inr ⟨b,cap,cur,hv,hB,(x.block b (qaa hk) (by omega) (fun e=>hh (by rw [hv,←e];rfl))).trans hk,hrr⟩⟩
end Go.Proofs.YtjkecckndfcbjaaGreatDoor
namespace Go.Proofs.YtjkecckndfcbjaaGreatDoor
open Go.RowKit Go.Sort Crc Nb
set_option maxRecDepth 100000
def qgj (s t:TL) (u v:Value) (p q:Bool):Array Value:=#[.int .i64 (s.ep:Int),.string s.st,u,.bool p,.int .i64 (t.ep:Int),.string t.st,v,.bool q]
def qF (f:FL):Bool:=decide ((qal f).n=f.s.size)
def RowF (w W:World) (f:FL) (v:Value):Prop:=W.ownsRow (w.heap.size + 1) 56 2 v (evA (qal f).evs).size (flatK qbx 2 (evA (qal f).evs)).toList
def FilesW (w:World) (d:DK) (k:Nat) (W:World):Prop :=
 (k=0∧W.heap[w.heap.size]?=some (.cells (qgj zT zT (.slice none 0 0) (.slice none 0 0) false false) 88 (0,0))) ∨
 (k=1∧∃ A c,W.heap[w.heap.size]?=some (.cells (qgj (qal d.f0) zT (.slice A (evA (qal d.f0).evs).size c) (.slice none 0 0) (qF d.f0) false) 88 (0,0))∧RowF w W d.f0 (.slice A (evA (qal d.f0).evs).size c)) ∨
 (k=2∧∃ A c B b,W.heap[w.heap.size]?=some (.cells (qgj (qal d.f0) (qal d.f1) (.slice A (evA (qal d.f0).evs).size c) (.slice B (evA (qal d.f1).evs).size b) (qF d.f0) (qF d.f1)) 88 (0,0))∧RowF w W d.f0 (.slice A (evA (qal d.f0).evs).size c)∧RowF w W d.f1 (.slice B (evA (qal d.f1).evs).size b))
theorem qvx {P:EV→Prop} (hP:∀ b:List UInt8,rtC b=0→P ((recO b).k,(recO b).dt)):∀ (l:List (List UInt8)) (t:TL) (i:Nat),(∀ e ∈ t.evs,P e)→t.ep≤1000000→(∀ e ∈ (qeb t i l).evs,P e)∧(qeb t i l).ep≤1000000
 | [],t,i,h,h'=>⟨h,h'⟩
 | b :: l,t,i,h,h'=>by
   by_cases hn:qgs t i b=true
   ·rw [qel hn]
    have h0:rtC b=0:=by unfold qgs at hn;simp only [Bool.and_eq_true,decide_eq_true_eq] at hn;exact hn.1.1
    refine qvx hP l _ _ ?_ ?_
    ·unfold qiv
     split
     ·exact h
     ·intro e he
      rcases List.mem_append.1 he with he | he
      ·exact h e he
      ·obtain rfl:=List.mem_singleton.1 he
       exact hP b h0
    ·unfold qiv
     split
     ·obtain ⟨-,h2,-⟩:=rtC_ok h0
      have:=qfv h2
      show (recO b).ep.toNat≤1000000
      omega
     ·exact h'
   ·rw [qbs (by simpa using hn)]
    exact ⟨h,h'⟩
theorem qcl (f:FL) (hs:f.s.size≤1000000):(qal f).evs.length≤200000∧(∀ e ∈ (qal f).evs,e.2.size≤1000000)∧(qal f).ep≤1000000:=by
 have h1:=qiz f.s.data.toList
 have e1:f.s.data.toList.length=f.s.size:=by simp
 have h2:=qig (allL f.s.data.toList).1 zT 0
 have h3:=qvx (P:=fun e=>e.2.size≤1000000) (fun b hb=>by
  obtain ⟨-,h2,-⟩:=rtC_ok hb
  obtain ⟨-,-,-,-,hT,hF⟩:=qfv h2
  show (recO b).dt.size≤1000000
  cases hsn:(recO b).sn
  ·have:=(hF hsn).2.2.1;omega
  ·rw [(hT hsn).2.1];decide) (allL f.s.data.toList).1 zT 0 (fun e he=>by cases he) (by decide)
 refine ⟨?_,h3.1,h3.2⟩
 have h4:zT.evs.length=0:=rfl
 show (qeb zT 0 (allL f.s.data.toList).1).evs.length≤200000
 omega
theorem erL_v {c:Nat} {e:Ending} {w:World} (h:ErL c e w):∃ v,e=.returned v∧((c=0∧v=.nilIface)∨(c≠0∧(∃ t u,v=.iface t u)∧∃ ops,ErrV w ops (c:Int) v)):=by
 obtain ⟨v,ops,rfl,hv⟩:=h
 refine ⟨v,rfl,?_⟩
 rcases hv with ⟨h0,-,rfl⟩ | ⟨h0,hc⟩
 ·exact Or.inl ⟨by omega,rfl⟩
 ·exact Or.inr ⟨by omega,qar hc,ops,Or.inr ⟨h0,hc⟩⟩
theorem FilesW.lt {w W:World} {d:DK} {k:Nat} (h:FilesW w d k W):w.heap.size < W.heap.size:=by
 rcases h with ⟨-,h⟩ | ⟨-,_,_,h,-⟩ | ⟨-,_,_,_,_,h,-,-⟩ <;> exact qaa h
theorem qcm {W:World} {B:Nat} {v:Value} {l:List EV} (h:W.ownsRow B 56 2 v (evA l).size (flatK qbx 2 (evA l)).toList):∃ A c,v=.slice A (evA l).size c:=by
 obtain ⟨A,c,e,-,-⟩:=qbo h
 exact ⟨A,c,e⟩
theorem set4 {W:World} {g:Nat} {cs:Array Value} {t:TypeId} (h:W.heap[g]?=some (.cells cs t (0,0))) (i:Nat) (a b c d:Value):((((W.setCell ⟨g,i,none⟩ a).setCell ⟨g,i + 1,none⟩ b).setCell ⟨g,i + 2,none⟩ c).setCell ⟨g,i + 3,none⟩ d).heap[g]?=some (.cells ((((cs.setIfInBounds i a).setIfInBounds (i + 1) b).setIfInBounds (i + 2) c).setIfInBounds (i + 3) d) t (0,0)) :=
 qae (qae (qae (qae h _ _) _ _) _ _) _ _
theorem qom {W:World} {B g n:Nat} {v:Value} {e:TypeId} {k:Nat} {xs:List Value} (h:W.ownsRow B e k v n xs) (hg:g < B) (i:Nat) (a b c d:Value):((((W.setCell ⟨g,i,none⟩ a).setCell ⟨g,i + 1,none⟩ b).setCell ⟨g,i + 2,none⟩ c).setCell ⟨g,i + 3,none⟩ d).ownsRow B e k v n xs :=
 qeq (qeq (qeq (qeq h hg _ _) hg _ _) hg _ _) hg _ _
theorem qvy {w W:World} {g:Nat} (h:Below w.heap.size w W) (hg:w.heap.size≤g) (i:Nat) (a b c d:Value):Below w.heap.size w ((((W.setCell ⟨g,i,none⟩ a).setCell ⟨g,i + 1,none⟩ b).setCell ⟨g,i + 2,none⟩ c).setCell ⟨g,i + 3,none⟩ d) :=
 (((h.setCell (p:=⟨g,i,none⟩) hg a).setCell (p:=⟨g,i + 1,none⟩) hg b).setCell (p:=⟨g,i + 2,none⟩) hg c).setCell (p:=⟨g,i + 3,none⟩) hg d
theorem qrj {W:World} {g:Nat} {a b c d e f x y:Value} {t:TypeId} (h:W.heap[g]?=some (.cells #[a,b,c,d,e,f,x,y] t (0,0))) :
 W.cell? ⟨g,0,none⟩=some a∧W.cell? ⟨g,1,none⟩=some b∧W.cell? ⟨g,2,none⟩=some c∧W.cell? ⟨g,3,none⟩=some d∧W.cell? ⟨g,4,none⟩=some e∧W.cell? ⟨g,5,none⟩=some f∧W.cell? ⟨g,6,none⟩=some x∧W.cell? ⟨g,7,none⟩=some y:=by
 refine ⟨?_,?_,?_,?_,?_,?_,?_,?_⟩ <;> (rw [qac h];rfl)
set_option maxHeartbeats 8000000 in
theorem qie (d:DK) (g:Nat) (first:ByteArray) (w:World) (hg:Glob w) (h:DAt w g d) (hok:d.ok) (ho:d.ops≤999999980) :
 Calls Tryz.prog 10 #[.pointer (some ⟨g,0,none⟩),.string first] w (qri g (qaw d first) w):=by
 have HRE:=hI (fun (W:World) (i:Int) (hb:Below w.heap.size w W)=>qgm d g i W (h.below hb) hok)
 have HWR:=hI (fun (W:World) (v:Value) (hv:Chain W [qhv] 20 v)=>qdo logW [qhv] 20 v W hv)
 have hs0:d.f0.s.size≤1000000:=by have:=hok.fit;have:=hok.room;omega
 have hs1:d.f1.s.size≤1000000:=by have:=hok.fit;have:=hok.room;omega
 have HD:=hI h
 have HB0:Hid (Below w.heap.size w (w.alloc (.cells (qgj zT zT (.slice none 0 0) (.slice none 0 0) false false) 88))):=bel1 w _
 cases hdd:d.dead
 rotate_left
 ·have HQ:Hid (qaw d first=qfw d 20):=by show _=_;unfold qaw;rw [if_pos hdd]
  rw [HQ.out]
  have hq:qcu d 0=(⟨#[]⟩,20):=by unfold qcu DK.up;rw [hdd];rfl
  have HRD:=hI (HRE.out _ 0 HB0.out)
  rw [hq] at HRD
  clear hq HQ hs0 hs1 hg h hok HRE
  unfold qgj zT at *
  dsimp only at *
  go_enter Tryz.func10,Tryz.ntmps10
  go_wp2
  obtain ⟨wz,hwz⟩:∃ W,w.alloc (.cells #[.int .i64 0,.string ⟨#[]⟩,.slice none 0 0,.bool false,.int .i64 0,.string ⟨#[]⟩,.slice none 0 0,.bool false] 88)=W:=⟨_,rfl⟩
  have HRD2:Hid (Calls Tryz.prog 33 #[.pointer (some ⟨g,0,none⟩),.int .i64 0] wz fun e w'=>∃ v,e=.returned (.tuple #[.string ⟨#[]⟩,v])∧ErrV w' [qhv] 20 v∧Below wz.heap.size wz w'):=by rw [←hwz];exact HRD.out
  have HBZ:Hid (Below w.heap.size w wz):=by rw [←hwz];exact HB0.out
  rw [hwz]
  clear hwz HRD HB0
  go_loopw [16] (fun iv wr=>iv=.int .i64 0∧wr=wz) (fun _ _=>1)
  case atStart=>exact ⟨rfl,rfl⟩
  case round =>
   obtain ⟨rfl,rfl⟩:=hrel
   go_wp2_with (first | (go_at_call 33;refine HRD2.out.mono ?_;rintro e w2 ⟨v,rfl,hv,hb2⟩;(have hch:=qdq hv (by decide));obtain ⟨t1,u1,rfl⟩:∃ t u,v=.iface t u:=qar hch;have HW2:=hI (HWR.out w2 _ hch);have HB2:=hI (qad HBZ.out hb2);clear hv hch hb2) | (go_at_call 34;refine HW2.out.mono ?_;rintro e w3 ⟨v,rfl,hch,hb3⟩;have HCH:=hI hch;have HB3:=hI (qad HB2.out hb3);clear hch hb3))
   refine bodyPost_ret (v:=.tuple #[.pointer none,.string ⟨#[]⟩,.slice none 0 0,v]) (by simp [results,Tryz.results10,go_sem]) rfl ?_
   exact Or.inl ⟨show (20:Nat)≠0 by decide,⟨v,_,rfl,Or.inr ⟨show ((20:Nat):Int)≠0 by decide,HCH.out⟩⟩,HD.out.below HB3.out,But.of HB3.out⟩
 obtain ⟨G,hG⟩:∃ G,qaw d first=G:=⟨_,rfl⟩
 rw [hG]
 have HGE:Hid (G=if (qal d.f0).ep=0∧(qal d.f1).ep=0 then outG (layP ⟨d,1,0,0,false⟩ 1 first []) first [] else if (qal d.f0).ep=(qal d.f1).ep then qfw d 23 else if (qal d.f1).ep < (qal d.f0).ep then qdb d 0 (qal d.f0) else qdb d 1 (qal d.f1)):=by
  show _=_
  rw [←hG]
  unfold qaw
  rw [if_neg (by rw [hdd];simp)]
 have HF0:Hid ((w.alloc (.cells (qgj zT zT (.slice none 0 0) (.slice none 0 0) false false) 88)).heap[w.heap.size]?=some (.cells (qgj zT zT (.slice none 0 0) (.slice none 0 0) false false) 88 (0,0))):=qas w _
 clear hG HWR
 go_enter Tryz.func10,Tryz.ntmps10
 go_wp2
 obtain ⟨wz,hwz⟩:∃ W,w.alloc (.cells #[.int .i64 0,.string ⟨#[]⟩,.slice none 0 0,.bool false,.int .i64 0,.string ⟨#[]⟩,.slice none 0 0,.bool false] 88)=W:=⟨_,rfl⟩
 have HFZ:Hid (wz.heap[w.heap.size]?=some (.cells (qgj zT zT (.slice none 0 0) (.slice none 0 0) false false) 88 (0,0))):=by rw [←hwz];exact HF0.out
 have HBZ:Hid (Below w.heap.size w wz):=by rw [←hwz];exact HB0.out
 rw [hwz]
 clear hwz HF0 HB0
 go_loopw [16] (fun iv wr=>∃ k:Nat,iv=.int .i64 (k:Int)∧k≤2∧FilesW w d k wr∧Hid (Below w.heap.size w wr)) (fun i _=>2 - (intOf i).toNat)
 case atStart=>exact ⟨0,rfl,by omega,Or.inl ⟨rfl,HFZ.out⟩,HBZ⟩
 case round =>
  obtain ⟨k,rfl,hk,hFW,HBW⟩:=hrel
  have hFL:=hI hFW.lt
  rcases hFW with hFW | hFW | hFW
  all_goals obtain rfl:=hFW.1
  ·obtain ⟨-,hbx⟩:=hFW
   have HBX0:=hI hbx
   have HRD:=hI (HRE.out wr 0 HBW.out)
   have hq:qcu d 0=(d.f0.s,0):=by unfold qcu;rw [if_neg (by unfold DK.up;rw [hdd];decide)];rfl
   rw [hq] at HRD
   have HTL:=hI (fun (W:World) (hb:Below w.heap.size w W)=>qvw d.f0.s W (hg.below hb) hs0)
   clear hbx hq
   go_wp2_with (first | (go_at_call 33;refine HRD.out.mono ?_;rintro e w2 ⟨v,rfl,hv,hb2⟩;(obtain rfl:v=.nilIface:=qef hv);have HB2:=hI (qad HBW.out hb2);have HTL2:=hI (HTL.out w2 HB2.out);clear hv) | (go_at_call 35;refine HTL2.out.mono ?_;rintro e w3 ⟨v,rfl,hr,hb3⟩;obtain ⟨A1,c1,rfl⟩:=qcm hr;have HB3:=hI (qad HB2.out hb3);(have HR1:Hid (RowF w w3 d.f0 (.slice A1 (evA (qal d.f0).evs).size c1)):=qay hr (by have:=(hFL.out);have:=hb2.size;omega));(have HBX:Hid (w3.heap[w.heap.size]?=some (.cells (qgj zT zT (.slice none 0 0) (.slice none 0 0) false false) 88 (0,0))):=(hb3.block _ (by have:=hFL.out;have:=hb2.size;omega)).trans ((hb2.block _ hFL.out).trans HBX0.out));(obtain ⟨u0,u1,u2,u3,-,-,-,-⟩:=qrj HBX.out);have z0:w3.frozen? ⟨w.heap.size,0,none⟩=false:=Lib.frozen_of_heap HBX.out 0;have z1:w3.frozen? ⟨w.heap.size,1,none⟩=false:=Lib.frozen_of_heap HBX.out 1;have z2:w3.frozen? ⟨w.heap.size,2,none⟩=false:=Lib.frozen_of_heap HBX.out 2;have z3:w3.frozen? ⟨w.heap.size,3,none⟩=false:=Lib.frozen_of_heap HBX.out 3;unfold qau;clear hr hb2 hb3))
   go_roundw
   case rel=>exact ⟨1,by go_num,by omega,Or.inr (Or.inl ⟨rfl,A1,c1,set4 HBX.out 0 _ _ _ _,qom HR1.out (Nat.lt_succ_self _) 0 _ _ _ _⟩),qvy HB3.out (Nat.le_refl _) 0 _ _ _ _⟩
   case measure=>simp [intOf]
  ·obtain ⟨-,A0,c0,hbx,hr0⟩:=hFW
   have HR0:=hI hr0
   clear hr0
   have HBX0:=hI hbx
   have HRD:=hI (HRE.out wr 1 HBW.out)
   have hq:qcu d 1=(d.f1.s,0):=by unfold qcu;rw [if_neg (by unfold DK.up;rw [hdd];decide)];rfl
   rw [hq] at HRD
   have HTL:=hI (fun (W:World) (hb:Below w.heap.size w W)=>qvw d.f1.s W (hg.below hb) hs1)
   clear hbx hq
   go_wp2_with (first | (go_at_call 33;refine HRD.out.mono ?_;rintro e w2 ⟨v,rfl,hv,hb2⟩;(obtain rfl:v=.nilIface:=qef hv);have HB2:=hI (qad HBW.out hb2);have HTL2:=hI (HTL.out w2 HB2.out);clear hv) | (go_at_call 35;refine HTL2.out.mono ?_;rintro e w3 ⟨v,rfl,hr,hb3⟩;obtain ⟨A1,c1,rfl⟩:=qcm hr;have HB3:=hI (qad HB2.out hb3);(have HR1:Hid (RowF w w3 d.f1 (.slice A1 (evA (qal d.f1).evs).size c1)):=qay hr (by have:=(hFL.out);have:=hb2.size;omega));(have HBX:Hid (w3.heap[w.heap.size]?=some (.cells (qgj (qal d.f0) zT (.slice A0 (evA (qal d.f0).evs).size c0) (.slice none 0 0) (qF d.f0) false) 88 (0,0))):=(hb3.block _ (by have:=hFL.out;have:=hb2.size;omega)).trans ((hb2.block _ hFL.out).trans HBX0.out));have HR0b:Hid (RowF w w3 d.f0 (.slice A0 (evA (qal d.f0).evs).size c0)):=qat (qat HR0.out hb2) hb3;(obtain ⟨-,-,-,-,u0,u1,u2,u3⟩:=qrj HBX.out);have z0:w3.frozen? ⟨w.heap.size,4,none⟩=false:=Lib.frozen_of_heap HBX.out 4;have z1:w3.frozen? ⟨w.heap.size,5,none⟩=false:=Lib.frozen_of_heap HBX.out 5;have z2:w3.frozen? ⟨w.heap.size,6,none⟩=false:=Lib.frozen_of_heap HBX.out 6;have z3:w3.frozen? ⟨w.heap.size,7,none⟩=false:=Lib.frozen_of_heap HBX.out 7;unfold qau;clear hr hb2 hb3))
   go_roundw
   case rel=>exact ⟨2,by go_num,by omega,Or.inr (Or.inr ⟨rfl,A0,c0,A1,c1,set4 HBX.out 4 _ _ _ _,qom HR0b.out (Nat.lt_succ_self _) 4 _ _ _ _,qom HR1.out (Nat.lt_succ_self _) 4 _ _ _ _⟩),qvy HB3.out (Nat.le_refl _) 4 _ _ _ _⟩
   case measure=>simp [intOf]
  ·obtain ⟨-,A0,c0,A1,c1,hbx,hr0,hr1⟩:=hFW
   unfold RowF at hr0 hr1
   unfold qgj at hbx
   have HCH:=hI (fun W=>qxl (qal d.f0) (qal d.f1) (.slice A0 (evA (qal d.f0).evs).size c0) (.slice A1 (evA (qal d.f1).evs).size c1) (qF d.f0) (qF d.f1) W)
   have HN0:Hid (qF d.f0=decide ((qal d.f0).n=(d.get 0).s.size)):=rfl
   have HN1:Hid (qF d.f1=decide ((qal d.f1).n=(d.get 1).s.size)):=rfl
   have HFW0:=hI (qcl d.f0 hs0)
   have HFW1:=hI (qcl d.f1 hs1)
   generalize qF d.f0=p0 at HCH HN0 hbx
   generalize qF d.f1=p1 at HCH HN1 hbx
   generalize qal d.f0=t0 at HCH HN0 HFW0 HGE hbx hr0
   generalize qal d.f1=t1 at HCH HN1 HFW1 HGE hbx hr1
   have hlz:=qaa hbx
   have hgz:g < w.heap.size:=h.lt
   have HR0:=hI hr0
   have HR1:=hI hr1
   have HBX:=hI hbx
   have HGL:=hI (fun (W:World) (hb:Below w.heap.size w W)=>hg.below hb)
   have HOK:=hI hok
   have hep0:=HFW0.out.2.2
   have hep1:=HFW1.out.2.2
   have HW9:=hI (fun (W:World)=>qfm 9 W (by omega))
   obtain ⟨u0,u1,u2,u3,u4,u5,u6,u7⟩:=qrj hbx
   unfold qau at HCH
   clear hr0 hr1 hbx HRE hs0 hs1 hg h hok
   by_cases h0:t0.ep=0∧t1.ep=0
   ·have HQC:Hid (qco t0.ep t1.ep=(-1,0)):=by show _=_;unfold qco;rw [if_pos h0]
    rw [HQC.out] at HCH
    rw [if_pos h0] at HGE
    clear h0
    generalize hR:layP ⟨d,1,0,0,false⟩ 1 first []=R at HGE
    go_wp2_with fail
    refine (HCH.out wr).mono ?_
    rintro e w3 ⟨x,rfl,hx,hb3⟩
    obtain rfl:x=.nilIface:=qef hx
    have HB3:=hI (qad HBW.out hb3)
    have HBX3:Hid (w3.heap[w.heap.size]?=some (.cells #[.int .i64 (t0.ep:Int),.string t0.st,.slice A0 (evA t0.evs).size c0,.bool p0,.int .i64 (t1.ep:Int),.string t1.st,.slice A1 (evA t1.evs).size c1,.bool p1] 88 (0,0))):=(hb3.block _ hlz).trans HBX.out
    have HR03:=hI (qat HR0.out hb3)
    have HR13:=hI (qat HR1.out hb3)
    have hlz3:=qaa HBX3.out
    have hgz3:g < w3.heap.size:=by omega
    have HD3:=hI (HD.out.below HB3.out)
    clear hx hb3 u0 u1 u2 u3 u4 u5 u6 u7 HCH HQC
    have HX4:Hid (LAt (w3.alloc (.cells #[.pointer (some ⟨g,0,none⟩),.int .i64 1,.int .i64 0,.int .i64 0,.bool false] 96)) w3.heap.size g ⟨d,1,0,0,false⟩):=⟨qas w3 _,HD3.out.below (bel1 w3 _),by omega⟩
    have HB4:Hid (Below w.heap.size w (w3.alloc (.cells #[.pointer (some ⟨g,0,none⟩),.int .i64 1,.int .i64 0,.int .i64 0,.bool false] 96))):=qab HB3.out _
    have HL4:=hI (qos ⟨d,1,0,0,false⟩ w3.heap.size g 1 first none 0 #[] (w3.alloc (.cells #[.pointer (some ⟨g,0,none⟩),.int .i64 1,.int .i64 0,.int .i64 0,.bool false] 96)) (HGL.out _ HB4.out) HX4.out HOK.out (by show d.ops≤_;omega) (Or.inr rfl) (fun h=>absurd h (Nat.lt_irrefl 0)) (by decide) (fun i hi=>absurd hi (Nat.not_lt_zero i)))
    rw [show (#[]:Array EV).toList=[] from rfl,hR] at HL4
    clear hR
    go_wp2_with (go_at_call 37;refine HL4.out.mono ?_;rintro e w5 ⟨he,hx5,hb5⟩;obtain ⟨v5,rfl,hv5⟩:=erL_v he;have HX5:=hI hx5;have HB5:=hI hb5;clear he hx5 hb5)
    have HBO:=hI (But2.one (But.of HB4.out) HB5.out HB3.out.size)
    rcases hv5 with ⟨hc,rfl⟩ | ⟨hc,⟨t5,z5,rfl⟩,ops5,hv5⟩
    ·have HGF:Hid (G=⟨R.1,first,[],0⟩):=by show _=_;rw [HGE.out];unfold outG;rw [if_neg (by rw [hc];simp)]
     clear HGE
     simp [go_sem,eqGuard]
     go_wp2
     refine bodyPost_ret (v:=.tuple #[.pointer (some ⟨w3.heap.size,0,none⟩),.string first,.slice none 0 0,.nilIface]) (by simp [results,Tryz.results10,go_sem]) rfl ?_
     rw [HGF.out]
     exact Or.inr ⟨rfl,_,_,rfl,HB3.out.size,HX5.out,qec _ _ _ _ _,HBO.out⟩
    ·have HGF:Hid (G=qfw R.1.d R.2):=by show _=_;rw [HGE.out];unfold outG;rw [if_pos hc]
     have HV5:=hI hv5
     have HC5:=hI hc
     clear HGE hv5 hc
     simp [go_sem,eqGuard]
     go_wp2
     refine bodyPost_ret (v:=.tuple #[.pointer none,.string ⟨#[]⟩,.slice none 0 0,.iface t5 z5]) (by simp [results,Tryz.results10,go_sem]) rfl ?_
     rw [HGF.out]
     exact Or.inl ⟨HC5.out,⟨_,_,rfl,HV5.out⟩,HX5.out.dsk,HBO.out⟩
   ·rw [if_neg h0] at HGE
    by_cases h1:t0.ep=t1.ep
    ·have HQC:Hid (qco t0.ep t1.ep=(0,23)):=by show _=_;unfold qco;rw [if_neg h0,if_pos h1]
     rw [HQC.out] at HCH
     rw [if_pos h1] at HGE
     clear h0 h1
     go_wp2_with (go_at_call 36;refine (HCH.out wr).mono ?_;rintro e w3 ⟨x,rfl,hx,hb3⟩;(have hch:=qdq hx (by decide));obtain ⟨t5,z5,rfl⟩:∃ t u,x=.iface t u:=qar hch;have HV:=hI hx;have HB3:=hI (qad HBW.out hb3);clear hx hch hb3)
     refine bodyPost_ret (v:=.tuple #[.pointer none,.string ⟨#[]⟩,.slice none 0 0,.iface t5 z5]) (by simp [results,Tryz.results10,go_sem]) rfl ?_
     rw [HGE.out]
     exact Or.inl ⟨show (23:Nat)≠0 by decide,⟨_,_,rfl,HV.out⟩,HD.out.below HB3.out,But.of HB3.out⟩
    ·rw [if_neg h1] at HGE
     by_cases h2:t1.ep < t0.ep
     ·have HQC:Hid (qco t0.ep t1.ep=(0,0)):=by show _=_;unfold qco;rw [if_neg h0,if_neg h1,if_pos h2]
      rw [HQC.out] at HCH
      rw [if_pos h2] at HGE
      clear h0 h1 h2
      go_wp2_with fail
      refine (HCH.out wr).mono ?_
      rintro e w3 ⟨x,rfl,hx,hb3⟩
      obtain rfl:x=.nilIface:=qef hx
      have HB3:=hI (qad HBW.out hb3)
      have HBX3:Hid (w3.heap[w.heap.size]?=some (.cells #[.int .i64 (t0.ep:Int),.string t0.st,.slice A0 (evA t0.evs).size c0,.bool p0,.int .i64 (t1.ep:Int),.string t1.st,.slice A1 (evA t1.evs).size c1,.bool p1] 88 (0,0))):=(hb3.block _ hlz).trans HBX.out
      have HR03:=hI (qat HR0.out hb3)
      have HR13:=hI (qat HR1.out hb3)
      have hlz3:=qaa HBX3.out
      have hgz3:g < w3.heap.size:=by omega
      have HD3:=hI (HD.out.below HB3.out)
      clear hx hb3 u0 u1 u2 u3 u4 u5 u6 u7 HCH HQC
      obtain ⟨u0,u1,u2,u3,u4,u5,u6,u7⟩:=qrj HBX3.out
      have HX4:Hid (LAt ((w3.alloc (.cells #[.int .i64 (t0.ep:Int),.string t0.st,.slice A0 (evA t0.evs).size c0,.bool p0] 87)).alloc (.cells #[.pointer (some ⟨g,0,none⟩),.int .i64 0,.int .i64 (t0.ep:Int),.int .i64 ((evA t0.evs).size:Int),.bool false] 96)) (w3.heap.size + 1) g ⟨d,0,t0.ep,(evA t0.evs).size,false⟩):=⟨by have hx:=qas (w3.alloc (.cells #[.int .i64 (t0.ep:Int),.string t0.st,.slice A0 (evA t0.evs).size c0,.bool p0] 87)) (.cells #[.pointer (some ⟨g,0,none⟩),.int .i64 0,.int .i64 (t0.ep:Int),.int .i64 ((evA t0.evs).size:Int),.bool false] 96);rw [show (w3.alloc (.cells #[.int .i64 (t0.ep:Int),.string t0.st,.slice A0 (evA t0.evs).size c0,.bool p0] 87)).heap.size=w3.heap.size + 1 by simp] at hx;exact hx,(HD3.out.below (bel1 w3 _)).below (bel1 _ _),by omega⟩
      have HB4:Hid (Below w.heap.size w ((w3.alloc (.cells #[.int .i64 (t0.ep:Int),.string t0.st,.slice A0 (evA t0.evs).size c0,.bool p0] 87)).alloc (.cells #[.pointer (some ⟨g,0,none⟩),.int .i64 0,.int .i64 (t0.ep:Int),.int .i64 ((evA t0.evs).size:Int),.bool false] 96))):=qab (qab HB3.out _) _
      have HRW:Hid (((w3.alloc (.cells #[.int .i64 (t0.ep:Int),.string t0.st,.slice A0 (evA t0.evs).size c0,.bool p0] 87)).alloc (.cells #[.pointer (some ⟨g,0,none⟩),.int .i64 0,.int .i64 (t0.ep:Int),.int .i64 ((evA t0.evs).size:Int),.bool false] 96)).ownsRow (w.heap.size + 1) 56 2 (.slice A0 (evA t0.evs).size c0) (evA t0.evs).size (flatK qbx 2 (evA t0.evs)).toList):=(HR03.out.alloc _).alloc _
      have HHN:Hid ((Value.slice A0 (evA t0.evs).size c0).ownBlock≠some (w3.heap.size + 1)):=fun e=>by have:=(HR03.out.lt _ e).2;omega
      cases p0
      ·have hnc:Hid (¬ t0.n=(d.get 0).s.size):=of_decide_eq_false HN0.out.symm
       by_cases h9:1000000≤t0.ep
       ·have HGF:Hid (G=qfw d 9):=by show _=_;rw [HGE.out];unfold qdb;rw [if_neg hnc.out,if_pos h9]
        have h9':(1000000:Int)≤(t0.ep:Int):=by omega
        clear HGE h9
        go_wp2_with (go_at_call 38;refine (HW9.out _).mono ?_;rintro e w5 ⟨x,rfl,hch,hb5⟩;have HCH:=hI hch;have HB5:=hI (qad HB4.out hb5);clear hch hb5)
        refine bodyPost_ret (v:=.tuple #[.pointer none,.string ⟨#[]⟩,.slice none 0 0,x]) (by simp [results,Tryz.results10,go_sem]) rfl ?_
        rw [HGF.out]
        exact Or.inl ⟨show (9:Nat)≠0 by decide,⟨_,_,rfl,Or.inr ⟨show ((9:Nat):Int)≠0 by decide,HCH.out⟩⟩,HD.out.below HB5.out,But.of HB5.out⟩
       ·have h9':decide ((1000000:Int)≤(t0.ep:Int))=false:=decide_eq_false (by omega)
        obtain ⟨R,hR⟩:∃ R,layP ⟨d,0,t0.ep,(evA t0.evs).size,false⟩ (t0.ep + 1) t0.st t0.evs=R:=⟨_,rfl⟩
        have HGF:Hid (G=outG R t0.st t0.evs):=by show _=_;rw [HGE.out,←hR,qbu];unfold qdb;rw [if_neg hnc.out,if_neg h9]
        obtain ⟨A',c',e',hrk,-⟩:=qbo HRW.out
        have HL4:=hI (qos ⟨d,0,t0.ep,(evA t0.evs).size,false⟩ (w3.heap.size + 1) g (t0.ep + 1) t0.st A0 c0 (evA t0.evs) ((w3.alloc (.cells #[.int .i64 (t0.ep:Int),.string t0.st,.slice A0 (evA t0.evs).size c0,.bool false] 87)).alloc (.cells #[.pointer (some ⟨g,0,none⟩),.int .i64 0,.int .i64 (t0.ep:Int),.int .i64 ((evA t0.evs).size:Int),.bool false] 96)) (HGL.out _ HB4.out) HX4.out HOK.out (by show d.ops≤_;omega) (Or.inl rfl) (by injection e' with e1 e2 e3;rw [←e1] at hrk;exact hrk) (by rw [qbu];exact HFW0.out.1) (fun i hi=>by
         refine HFW0.out.2.1 _ ?_
         rw [getElem!_pos (evA t0.evs) i hi]
         exact Array.getElem_mem_toList hi))
        rw [show (evA t0.evs).toList=t0.evs from rfl,hR] at HL4
        clear hR HGE h9 hrk e'
        go_wp2_with (go_at_call 37;refine HL4.out.mono ?_;rintro e w5 ⟨he,hx5,hb5⟩;obtain ⟨v5,rfl,hv5⟩:=erL_v he;have HX5:=hI hx5;have HB5:=hI hb5;clear he hx5 hb5)
        have HBO:=hI (But2.one (But.of HB4.out) HB5.out (by have:=HB3.out.size;omega))
        rcases hv5 with ⟨hc,rfl⟩ | ⟨hc,⟨t5,z5,rfl⟩,ops5,hv5⟩
        ·have HGO:Hid (G=⟨R.1,t0.st,t0.evs,0⟩):=by show _=_;rw [HGF.out];unfold outG;rw [if_neg (by rw [hc];simp)]
         have HF5:Hid (w5.heap[w3.heap.size]?=some (.cells #[.int .i64 (t0.ep:Int),.string t0.st,.slice A0 (evA t0.evs).size c0,.bool false] 87 (0,0))):=HB5.out.heap ((Below.heap_alloc _ _ _ (by simp)).trans (qas w3 _)) (by omega) (by omega)
         have HR5:=hI (qol HRW.out HB5.out (by omega) HHN.out)
         have y1:w5.cell? ⟨w3.heap.size,1,none⟩=some (.string t0.st):=by rw [qac HF5.out];rfl
         have y2:w5.cell? ⟨w3.heap.size,2,none⟩=some (.slice A0 (evA t0.evs).size c0):=by rw [qac HF5.out];rfl
         clear HGF
         simp [go_sem,eqGuard]
         go_wp2
         go_region
         go_wp2
         refine bodyPost_ret (v:=.tuple #[.pointer (some ⟨w3.heap.size + 1,0,none⟩),.string t0.st,.slice A0 (evA t0.evs).size c0,.nilIface]) (by simp [results,Tryz.results10,go_sem]) rfl ?_
         rw [HGO.out]
         exact Or.inr ⟨rfl,_,_,rfl,by have:=HB3.out.size;omega,HX5.out.drew,qay HR5.out (Nat.le_succ _),HBO.out.drew⟩
        ·have HGO:Hid (G=qfw R.1.d R.2):=by show _=_;rw [HGF.out];unfold outG;rw [if_pos hc]
         have HV5:=hI hv5
         have HC5:=hI hc
         clear HGF hv5 hc
         simp [go_sem,eqGuard]
         go_wp2
         refine bodyPost_ret (v:=.tuple #[.pointer none,.string ⟨#[]⟩,.slice none 0 0,.iface t5 z5]) (by simp [results,Tryz.results10,go_sem]) rfl ?_
         rw [HGO.out]
         exact Or.inl ⟨HC5.out,⟨_,_,rfl,HV5.out⟩,HX5.out.dsk,HBO.out⟩
      ·have HGF:Hid (G=⟨⟨d,0,t0.ep,(evA t0.evs).size,false⟩,t0.st,t0.evs,0⟩):=by show _=_;rw [HGE.out,qbu];unfold qdb;rw [if_pos (of_decide_eq_true HN0.out.symm)]
       clear HGE
       go_wp2
       go_region
       go_wp2
       refine bodyPost_ret (v:=.tuple #[.pointer (some ⟨w3.heap.size + 1,0,none⟩),.string t0.st,.slice A0 (evA t0.evs).size c0,.nilIface]) (by simp [results,Tryz.results10,go_sem]) rfl ?_
       rw [HGF.out]
       exact Or.inr ⟨rfl,_,_,rfl,by have:=HB3.out.size;omega,HX4.out.drew,qay HRW.out (Nat.le_succ _),(But.of HB4.out).drew⟩
     ·have HQC:Hid (qco t0.ep t1.ep=(1,0)):=by show _=_;unfold qco;rw [if_neg h0,if_neg h1,if_neg h2]
      rw [HQC.out] at HCH
      rw [if_neg h2] at HGE
      clear h0 h1 h2
      go_wp2_with fail
      refine (HCH.out wr).mono ?_
      rintro e w3 ⟨x,rfl,hx,hb3⟩
      obtain rfl:x=.nilIface:=qef hx
      have HB3:=hI (qad HBW.out hb3)
      have HBX3:Hid (w3.heap[w.heap.size]?=some (.cells #[.int .i64 (t0.ep:Int),.string t0.st,.slice A0 (evA t0.evs).size c0,.bool p0,.int .i64 (t1.ep:Int),.string t1.st,.slice A1 (evA t1.evs).size c1,.bool p1] 88 (0,0))):=(hb3.block _ hlz).trans HBX.out
      have HR03:=hI (qat HR0.out hb3)
      have HR13:=hI (qat HR1.out hb3)
      have hlz3:=qaa HBX3.out
      have hgz3:g < w3.heap.size:=by omega
      have HD3:=hI (HD.out.below HB3.out)
      clear hx hb3 u0 u1 u2 u3 u4 u5 u6 u7 HCH HQC
      obtain ⟨u0,u1,u2,u3,u4,u5,u6,u7⟩:=qrj HBX3.out
      have HX4:Hid (LAt ((w3.alloc (.cells #[.int .i64 (t1.ep:Int),.string t1.st,.slice A1 (evA t1.evs).size c1,.bool p1] 87)).alloc (.cells #[.pointer (some ⟨g,0,none⟩),.int .i64 1,.int .i64 (t1.ep:Int),.int .i64 ((evA t1.evs).size:Int),.bool false] 96)) (w3.heap.size + 1) g ⟨d,1,t1.ep,(evA t1.evs).size,false⟩):=⟨by have hx:=qas (w3.alloc (.cells #[.int .i64 (t1.ep:Int),.string t1.st,.slice A1 (evA t1.evs).size c1,.bool p1] 87)) (.cells #[.pointer (some ⟨g,0,none⟩),.int .i64 1,.int .i64 (t1.ep:Int),.int .i64 ((evA t1.evs).size:Int),.bool false] 96);rw [show (w3.alloc (.cells #[.int .i64 (t1.ep:Int),.string t1.st,.slice A1 (evA t1.evs).size c1,.bool p1] 87)).heap.size=w3.heap.size + 1 by simp] at hx;exact hx,(HD3.out.below (bel1 w3 _)).below (bel1 _ _),by omega⟩
      have HB4:Hid (Below w.heap.size w ((w3.alloc (.cells #[.int .i64 (t1.ep:Int),.string t1.st,.slice A1 (evA t1.evs).size c1,.bool p1] 87)).alloc (.cells #[.pointer (some ⟨g,0,none⟩),.int .i64 1,.int .i64 (t1.ep:Int),.int .i64 ((evA t1.evs).size:Int),.bool false] 96))):=qab (qab HB3.out _) _
      have HRW:Hid (((w3.alloc (.cells #[.int .i64 (t1.ep:Int),.string t1.st,.slice A1 (evA t1.evs).size c1,.bool p1] 87)).alloc (.cells #[.pointer (some ⟨g,0,none⟩),.int .i64 1,.int .i64 (t1.ep:Int),.int .i64 ((evA t1.evs).size:Int),.bool false] 96)).ownsRow (w.heap.size + 1) 56 2 (.slice A1 (evA t1.evs).size c1) (evA t1.evs).size (flatK qbx 2 (evA t1.evs)).toList):=(HR13.out.alloc _).alloc _
      have HHN:Hid ((Value.slice A1 (evA t1.evs).size c1).ownBlock≠some (w3.heap.size + 1)):=fun e=>by have:=(HR13.out.lt _ e).2;omega
      cases p1
      ·have hnc:Hid (¬ t1.n=(d.get 1).s.size):=of_decide_eq_false HN1.out.symm
       by_cases h9:1000000≤t1.ep
       ·have HGF:Hid (G=qfw d 9):=by show _=_;rw [HGE.out];unfold qdb;rw [if_neg hnc.out,if_pos h9]
        have h9':(1000000:Int)≤(t1.ep:Int):=by omega
        clear HGE h9
        go_wp2_with (go_at_call 38;refine (HW9.out _).mono ?_;rintro e w5 ⟨x,rfl,hch,hb5⟩;have HCH:=hI hch;have HB5:=hI (qad HB4.out hb5);clear hch hb5)
        refine bodyPost_ret (v:=.tuple #[.pointer none,.string ⟨#[]⟩,.slice none 0 0,x]) (by simp [results,Tryz.results10,go_sem]) rfl ?_
        rw [HGF.out]
        exact Or.inl ⟨show (9:Nat)≠0 by decide,⟨_,_,rfl,Or.inr ⟨show ((9:Nat):Int)≠0 by decide,HCH.out⟩⟩,HD.out.below HB5.out,But.of HB5.out⟩
       ·have h9':decide ((1000000:Int)≤(t1.ep:Int))=false:=decide_eq_false (by omega)
        obtain ⟨R,hR⟩:∃ R,layP ⟨d,1,t1.ep,(evA t1.evs).size,false⟩ (t1.ep + 1) t1.st t1.evs=R:=⟨_,rfl⟩
        have HGF:Hid (G=outG R t1.st t1.evs):=by show _=_;rw [HGE.out,←hR,qbu];unfold qdb;rw [if_neg hnc.out,if_neg h9]
        obtain ⟨A',c',e',hrk,-⟩:=qbo HRW.out
        have HL4:=hI (qos ⟨d,1,t1.ep,(evA t1.evs).size,false⟩ (w3.heap.size + 1) g (t1.ep + 1) t1.st A1 c1 (evA t1.evs) ((w3.alloc (.cells #[.int .i64 (t1.ep:Int),.string t1.st,.slice A1 (evA t1.evs).size c1,.bool false] 87)).alloc (.cells #[.pointer (some ⟨g,0,none⟩),.int .i64 1,.int .i64 (t1.ep:Int),.int .i64 ((evA t1.evs).size:Int),.bool false] 96)) (HGL.out _ HB4.out) HX4.out HOK.out (by show d.ops≤_;omega) (Or.inr rfl) (by injection e' with e1 e2 e3;rw [←e1] at hrk;exact hrk) (by rw [qbu];exact HFW1.out.1) (fun i hi=>by
         refine HFW1.out.2.1 _ ?_
         rw [getElem!_pos (evA t1.evs) i hi]
         exact Array.getElem_mem_toList hi))
        rw [show (evA t1.evs).toList=t1.evs from rfl,hR] at HL4
        clear hR HGE h9 hrk e'
        go_wp2_with (go_at_call 37;refine HL4.out.mono ?_;rintro e w5 ⟨he,hx5,hb5⟩;obtain ⟨v5,rfl,hv5⟩:=erL_v he;have HX5:=hI hx5;have HB5:=hI hb5;clear he hx5 hb5)
        have HBO:=hI (But2.one (But.of HB4.out) HB5.out (by have:=HB3.out.size;omega))
        rcases hv5 with ⟨hc,rfl⟩ | ⟨hc,⟨t5,z5,rfl⟩,ops5,hv5⟩
        ·have HGO:Hid (G=⟨R.1,t1.st,t1.evs,0⟩):=by show _=_;rw [HGF.out];unfold outG;rw [if_neg (by rw [hc];simp)]
         have HF5:Hid (w5.heap[w3.heap.size]?=some (.cells #[.int .i64 (t1.ep:Int),.string t1.st,.slice A1 (evA t1.evs).size c1,.bool false] 87 (0,0))):=HB5.out.heap ((Below.heap_alloc _ _ _ (by simp)).trans (qas w3 _)) (by omega) (by omega)
         have HR5:=hI (qol HRW.out HB5.out (by omega) HHN.out)
         have y1:w5.cell? ⟨w3.heap.size,1,none⟩=some (.string t1.st):=by rw [qac HF5.out];rfl
         have y2:w5.cell? ⟨w3.heap.size,2,none⟩=some (.slice A1 (evA t1.evs).size c1):=by rw [qac HF5.out];rfl
         clear HGF
         simp [go_sem,eqGuard]
         go_wp2
         go_region
         go_wp2
         refine bodyPost_ret (v:=.tuple #[.pointer (some ⟨w3.heap.size + 1,0,none⟩),.string t1.st,.slice A1 (evA t1.evs).size c1,.nilIface]) (by simp [results,Tryz.results10,go_sem]) rfl ?_
         rw [HGO.out]
         exact Or.inr ⟨rfl,_,_,rfl,by have:=HB3.out.size;omega,HX5.out.drew,qay HR5.out (Nat.le_succ _),HBO.out.drew⟩
        ·have HGO:Hid (G=qfw R.1.d R.2):=by show _=_;rw [HGF.out];unfold outG;rw [if_pos hc]
         have HV5:=hI hv5
         have HC5:=hI hc
         clear HGF hv5 hc
         simp [go_sem,eqGuard]
         go_wp2
         refine bodyPost_ret (v:=.tuple #[.pointer none,.string ⟨#[]⟩,.slice none 0 0,.iface t5 z5]) (by simp [results,Tryz.results10,go_sem]) rfl ?_
         rw [HGO.out]
         exact Or.inl ⟨HC5.out,⟨_,_,rfl,HV5.out⟩,HX5.out.dsk,HBO.out⟩
      ·have HGF:Hid (G=⟨⟨d,1,t1.ep,(evA t1.evs).size,false⟩,t1.st,t1.evs,0⟩):=by show _=_;rw [HGE.out,qbu];unfold qdb;rw [if_pos (of_decide_eq_true HN1.out.symm)]
       clear HGE
       go_wp2
       go_region
       go_wp2
       refine bodyPost_ret (v:=.tuple #[.pointer (some ⟨w3.heap.size + 1,0,none⟩),.string t1.st,.slice A1 (evA t1.evs).size c1,.nilIface]) (by simp [results,Tryz.results10,go_sem]) rfl ?_
       rw [HGF.out]
       exact Or.inr ⟨rfl,_,_,rfl,by have:=HB3.out.size;omega,HX4.out.drew,qay HRW.out (Nat.le_succ _),(But.of HB4.out).drew⟩
end Go.Proofs.YtjkecckndfcbjaaGreatDoor
namespace Go.Proofs.YtjkecckndfcbjaaGreatDoor
open Go.RowKit Go.Sort Crc Nb
set_option maxRecDepth 100000
theorem tick_any (w:World) :
 Calls Tryz.prog 27 #[] w fun e w'=>e=.returned (.agg #[.int .i64 3,.string ⟨#[]⟩])∧Below w.heap.size w w':=by
 go_enter Tryz.func27,Tryz.ntmps27
 go_wp2
 refine bodyPost_ret (v:=.agg #[.int .i64 3,.string ⟨#[]⟩]) (by simp [results,Tryz.results27,go_sem]) rfl ⟨rfl,?_⟩
 repeat (first | exact bel1 w _ | refine Below.drew ?_ | refine qao ?_ _ | refine qab ?_ _)
theorem But2.cellA {g h:Nat} {w w':World} (x:But2 g h w w') {p:Addr} (hp:p.block < w.heap.size) (h1:p.block≠g) (h2:p.block≠h):w'.cell? p=w.cell? p:=World.cell?_of_block (x.block p.block hp h1 h2)
theorem Flt.but2 {g h b:Nat} {w w':World} (hb:But2 g h w w') (hg:¬ Flt w g) (hh:¬ Flt w h) (f:Flt w b):Flt w' b:=by
 have h1:b≠g:=fun e=>hg (e ▸ f)
 have h2:b≠h:=fun e=>hh (e ▸ f)
 obtain ⟨cs,f,hx⟩:=f
 exact ⟨cs,f,hb.heap hx h1 h2⟩
theorem Chain.but2 {g h:Nat} {w w':World} (hb:But2 g h w w') (hg:¬ Flt w g) (hh:¬ Flt w h):∀ {ops:List ByteArray} {c:Int} {v:Value},Chain w ops c v→Chain w' ops c v
 | [],_,_,h=>h
 | _ :: _,_,_,⟨b,o,u,h1,h2,h3,h4,h5⟩=>by
   have n1:b≠g:=fun e=>hg (e ▸ h5)
   have n2:b≠h:=fun e=>hh (e ▸ h5)
   exact ⟨b,o,u,h1,(hb.cellA (p:=⟨b,o,none⟩) (qan h2) n1 n2).trans h2,(hb.cellA (p:=⟨b,o + 1,none⟩) (qan h3) n1 n2).trans h3,Chain.but2 hb hg hh h4,h5.but2 hb hg hh⟩
theorem ErrV.but2 {g h:Nat} {w w':World} (hb:But2 g h w w') (hg:¬ Flt w g) (hh:¬ Flt w h) {ops:List ByteArray} {c:Int} {v:Value} (x:ErrV w ops c v):ErrV w' ops c v:=by
 rcases x with x | ⟨h1,h2⟩
 ·exact Or.inl x
 ·exact Or.inr ⟨h1,h2.but2 hb hg hh⟩
theorem LAt.other {w w':World} {g h h2:Nat} {l:LG} (x:LAt w h g l) (hb:But2 g h2 w w') (hh:h≠h2) {d:DK} (hd:DAt w' g d):LAt w' h g { l with d:=d }:=⟨hb.heap x.box x.ne hh,hd,x.ne⟩
theorem qon {g:Nat} {x:OG} {w w':World} {e:Ending} (h:qri g x w e w') (h0:x.e=0) :
 ∃ k A c,e=.returned (.tuple #[.pointer (some ⟨k,0,none⟩),.string x.st,.slice A (evA x.evs).size c,.nilIface])∧w.heap.size≤k∧LAt w' k g x.l∧w'.ownsRow w.heap.size 56 2 (.slice A (evA x.evs).size c) (evA x.evs).size (flatK qbx 2 (evA x.evs)).toList∧But g w w':=by
 rcases h with ⟨h1,-⟩ | ⟨-,k,v,rfl,h2,h3,h4,h5⟩
 ·exact absurd h0 h1
 ·obtain ⟨A,c,rfl⟩:=qcm h4
  exact ⟨k,A,c,rfl,h2,h3,h4,h5⟩
theorem erL_0 {c:Nat} {e:Ending} {w:World} (h:ErL c e w) (h0:c=0):e=.returned .nilIface:=by
 obtain ⟨v,rfl,⟨-,rfl⟩ | ⟨h1,-⟩⟩:=erL_v h
 ·rfl
 ·exact absurd h0 h1
theorem erL_n {c:Nat} {e:Ending} {w:World} (h:ErL c e w) (h0:c≠0):∃ t u ops,e=.returned (.iface t u)∧ErrV w ops (c:Int) (.iface t u):=by
 obtain ⟨v,rfl,⟨h1,-⟩ | ⟨-,⟨t,u,rfl⟩,ops,hv⟩⟩:=erL_v h
 ·exact absurd h1 h0
 ·exact ⟨t,u,ops,rfl,hv⟩
theorem aw1_open {g:Nat} {w w':World} {e:Ending} (h:qri g aw1 w e w'):∃ k A c,e=.returned (.tuple #[.pointer (some ⟨k,0,none⟩),.string ⟨#[102,105,114,115,116]⟩,.slice A 0 c,.nilIface])∧w.heap.size≤k∧LAt w' k g aw1.l∧But g w w':=by
 obtain ⟨k,A,c,rfl,h1,h2,-,h3⟩:=qon h qsp.1
 refine ⟨k,A,c,?_,h1,h2,h3⟩
 rw [qsp.2.1,show (evA aw1.evs).size=0 by rw [qbu];exact qsp.2.2]
 rfl
theorem aw5_open {g:Nat} {w w':World} {e:Ending} (h:qri g aw5 w e w'):∃ k A c,e=.returned (.tuple #[.pointer (some ⟨k,0,none⟩),.string ⟨#[102,105,114,115,116]⟩,.slice A 1 c,.nilIface])∧w.heap.size≤k∧LAt w' k g aw5l∧But g w w':=by
 rw [aw5_eq] at h
 obtain ⟨k,A,c,rfl,h1,h2,-,h3⟩:=qon h rfl
 exact ⟨k,A,c,rfl,h1,h2,h3⟩
theorem aw7_open {g:Nat} {w w':World} {e:Ending} (h:qri g aw7 w e w'):∃ l k A c,e=.returned (.tuple #[.pointer (some ⟨k,0,none⟩),.string ⟨#[110,101,120,116]⟩,.slice A 0 c,.nilIface])∧w.heap.size≤k∧LAt w' k g l∧But g w w':=by
 obtain ⟨l,hl⟩:=aw7_all
 rw [hl] at h
 obtain ⟨k,A,c,rfl,h1,h2,-,h3⟩:=qon h rfl
 exact ⟨l,k,A,c,rfl,h1,h2,h3⟩
end Go.Proofs.YtjkecckndfcbjaaGreatDoor
namespace Go.Proofs.YtjkecckndfcbjaaGreatDoor
open Nb Crc
set_option maxRecDepth 100000
theorem outG_lv {o:Nat} {x:LG×Nat} (h:LV o x.1) (st:ByteArray) (evs:List EV):LV o (outG x st evs).l:=by
 unfold outG
 split
 ·exact ⟨h.ok,Or.inl rfl,Nat.zero_le _,Nat.zero_le _,h.ops⟩
 ·exact h
theorem qoo {o:Nat} {d:DK} (hok:d.ok) (ho:d.ops≤o) (e:Nat):LV o (qfw d e).l:=⟨hok,Or.inl rfl,Nat.zero_le _,Nat.zero_le _,ho⟩
theorem qop {o:Nat} {d:DK} (hok:d.ok) (ho:d.ops≤o) (x:ByteArray):LV (o + 3) (qaw d x).l:=by
 have hs0:d.f0.s.size≤1000000:=by have:=hok.fit;have:=hok.room;omega
 have hs1:d.f1.s.size≤1000000:=by have:=hok.fit;have:=hok.room;omega
 obtain ⟨a1,-,a3⟩:=qcl d.f0 hs0
 obtain ⟨b1,-,b3⟩:=qcl d.f1 hs1
 have hF:∀ (f:Nat) (t:TL),f=0∨f=1→t.evs.length≤200000→t.ep≤1000000→LV (o + 3) (qdb d f t).l:=by
  intro f t hf h1 h2
  unfold qdb
  split
  ·exact ⟨hok,hf,h2,by show t.evs.length≤_;omega,by show d.ops≤_;omega⟩
  split
  ·exact qoo hok (by omega) _
  ·exact outG_lv (qsm (o:=o) ⟨hok,hf,h2,by show t.evs.length≤_;omega,ho⟩ (by omega) _ (by omega)) _ _
 unfold qaw
 split
 ·exact qoo hok (by omega) _
 split
 ·exact outG_lv (qsm (o:=o) ⟨hok,Or.inr rfl,Nat.zero_le _,Nat.zero_le _,ho⟩ (by omega) _ (by simp)) _ _
 split
 ·exact qoo hok (by omega) _
 split
 ·exact hF 0 _ (Or.inl rfl) a1 a3
 ·exact hF 1 _ (Or.inr rfl) b1 b3
theorem newD_ok (n:Nat) (h1:1≤n) (h2:n≤1000000):(newD n).ok:=⟨Nat.le_refl _,Nat.le_refl _,Nat.zero_le _,h1,h2,Nat.zero_le _⟩
def KD (n:Nat) (S:PP) (k:Nat) (D:DK):Prop:=∃ f,CD D f (n + 2 + k)∧(qal (D.get f)).st=S.st∧(qal (D.get f)).evs=S.evs∧D.ops≤1000 + 3 * k
theorem KD.ok {n k:Nat} {S:PP} {D:DK} (h:KD n S k D):D.ok:=by obtain ⟨f,h1,-⟩:=h;exact h1.ok
theorem KD.ops {n k:Nat} {S:PP} {D:DK} (h:KD n S k D):D.ops≤1000 + 3 * k:=by obtain ⟨f,-,-,-,h4⟩:=h;exact h4
end Go.Proofs.YtjkecckndfcbjaaGreatDoor
namespace Go.Proofs.YtjkecckndfcbjaaGreatDoor
open Go.RowKit Go.Sort Crc Nb
set_option maxRecDepth 100000
set_option maxHeartbeats 4000000 in
theorem qsy (w:World) (hg:Glob w) :
 Calls Tryz.prog 7 #[] w fun e w'=>e=.returned (.bool true)∧Below w.heap.size w w':=by
 have HN:=hI (qpx 1000 w (by omega) (by omega))
 have HGL:=hI (fun (W:World) (hb:Below w.heap.size w W)=>hg.below hb)
 clear hg
 go_enter Tryz.func7,Tryz.ntmps7
 go_wp2_with fail
 refine HN.out.mono ?_
 rintro e w1 ⟨g,hgw,rfl,hd1,hb1⟩
 have D1:Hid (DAt w1 g (newD 1000)):=hd1
 have HB1:=hI hb1
 clear hd1 hb1 HN
 go_wp2_with fail
 refine (qie (newD 1000) g fstB w1 (HGL.out w1 HB1.out) D1.out qss (by decide)).mono ?_
 rintro e w2 hx
 obtain ⟨h,A2,c2,rfl,hh,x2,b2⟩:=aw1_open hx
 have hhw:w.heap.size≤h:=Nat.le_trans HB1.out.size hh
 have X2:=hI x2
 have HB2:=hI ((b2.left g).below HB1.out hgw hgw HB1.out.size)
 clear hx x2 b2 hh D1
 go_wp2_with (go_at_call 27;refine (tick_any _).mono ?_;rintro e w3 ⟨rfl,hb3⟩;have X3:=hI (X2.out.below hb3);have HB3:=hI (qad HB2.out hb3);clear hb3)
 refine (qot aw1.l h g (3,⟨#[]⟩) w3 (HGL.out w3 HB3.out) X3.out quv.1 (by have:=quv.2.1;omega) quv.2.2.1 (by have:=quv.2.2.2.1;omega) (by decide)).mono ?_
 rintro e w4 ⟨he,x4,b4⟩
 obtain rfl:=erL_0 he aw2_all
 have X4:Hid (LAt w4 h g aw2.1):=x4
 have HB4:=hI (b4.below HB3.out hgw hhw HB3.out.size)
 clear he x4 b4 X3 X2
 go_wp2_with fail
 refine (qro aw2.1 h g w4 X4.out aw2_ok.1 (by have:=aw2_ok.2.1;omega) aw2_ok.2.2.1).mono ?_
 rintro e w5 ⟨he,x5,b5⟩
 obtain rfl:=erL_0 he aw3_all
 have X5:Hid (LAt w5 h g aw3.1):=x5
 have HB5:=hI (b5.below HB4.out hgw hhw HB4.out.size)
 clear he x5 b5 X4
 go_wp2_with fail
 refine (qot aw3.1 h g (0,⟨#[]⟩) w5 (HGL.out w5 HB5.out) X5.out quw.1 (by have:=quw.2.1;omega) quw.2.2.1 (by have:=quw.2.2.2.1;omega) (by decide)).mono ?_
 rintro e w6 ⟨he,x6,b6⟩
 obtain ⟨t9,u9,ops9,rfl,hv9⟩:=erL_n he (by show aw4.2≠0;rw [qsq.1];decide)
 have HV6:Hid (ErrV w6 ops9 ((2:Nat):Int) (.iface t9 u9)):=by rw [←qsq.1];exact hv9
 have X6:Hid (LAt w6 h g aw4.1):=x6
 have HB6:=hI (b6.below HB5.out hgw hhw HB5.out.size)
 have hl6:h < w6.heap.size:=x6.lth
 clear he x6 b6 X5 hv9
 go_wp2_with fail
 refine (qie aw4.1.d g othB w6 (HGL.out w6 HB6.out) X6.out.dsk aw4_ok.1 (by have:=aw4_ok.2.1;omega)).mono ?_
 rintro e w7 hx
 obtain ⟨h2,A7,c7,rfl,hh2,x7,b7⟩:=aw5_open hx
 have hne:h≠h2:=by omega
 have hhw2:w.heap.size≤h2:=by omega
 have X7:=hI x7
 have XL7:=hI (X6.out.other (b7.left h2) hne x7.dsk)
 have HV7:=hI (HV6.out.but b7 X6.out.dsk.noFlt)
 have HB7:=hI ((b7.left g).below HB6.out hgw hgw HB6.out.size)
 clear hx x7 b7 X6 HV6 hh2 hl6
 go_wp2_with fail
 refine (qmr aw5l h2 g nxtB w7 (HGL.out w7 HB7.out) X7.out aw5_ok.1 (by have:=aw5_ok.2.1;omega) aw5_ok.2.2.1 (by decide)).mono ?_
 rintro e w8 ⟨he,x8,b8⟩
 obtain rfl:=erL_0 he qsr.1
 have X8:Hid (LAt w8 h2 g aw6l.1):=x8
 have XL8:=hI (XL7.out.other b8 hne x8.dsk)
 have HV8:=hI (HV7.out.but2 b8 X7.out.dsk.noFlt X7.out.noFlt)
 have HB8:=hI (b8.below HB7.out hgw hhw2 HB7.out.size)
 clear he x8 b8 X7 XL7 HV7
 go_wp2_with fail
 refine (qie aw6l.1.d g othB w8 (HGL.out w8 HB8.out) X8.out.dsk aw6_ok.1 (by have:=aw6_ok.2.1;omega)).mono ?_
 rintro e w9 hx
 have hx':qri g aw7 w8 e w9:=by unfold aw7;rw [aw6_eq];exact hx
 obtain ⟨l9,h3,A9,c9,rfl,hh3,x9,b9⟩:=aw7_open hx'
 have XM9:=hI (X8.out.disk b9 x9.dsk)
 have XL9:=hI (XL8.out.other (b9.left h2) hne x9.dsk)
 have HV9:=hI (HV8.out.but b9 X8.out.dsk.noFlt)
 have HB9:=hI ((b9.left g).below HB8.out hgw hgw HB8.out.size)
 clear hx hx' x9 b9 X8 XL8 HV8 hh3
 go_wp2_with fail
 refine (qbt ops9 2 _ w9 (HGL.out w9 HB9.out) HV9.out).mono ?_
 rintro e wa ⟨rfl,hba⟩
 have XMa:=hI (XM9.out.below hba)
 have XLa:=hI (XL9.out.below hba)
 have HBa:=hI (qad HB9.out hba)
 clear hba XM9 XL9 HV9
 have HS1:Hid (Calls Tryz.prog 14 #[.pointer (some ⟨h,0,none⟩)] wa fun e w'=>e=.returned (.int .i64 1)∧wa=w'):=by
  have:=qsz _ h g wa XLa.out
  rw [show ({ aw4.1 with d:=l9.d }:LG).sq=1 from qsq.2] at this
  exact this
 have HS2:Hid (Calls Tryz.prog 14 #[.pointer (some ⟨h2,0,none⟩)] wa fun e w'=>e=.returned (.int .i64 0)∧wa=w'):=by
  have:=qsz _ h2 g wa XMa.out
  rw [show ({ aw6l.1 with d:=l9.d }:LG).sq=0 from qsr.2.2] at this
  exact this
 have HE2:Hid (Calls Tryz.prog 30 #[.pointer (some ⟨h2,0,none⟩)] wa fun e w'=>e=.returned (.int .i64 2)∧wa=w'):=by
  have:=qrk _ h2 g wa XMa.out
  rw [show ({ aw6l.1 with d:=l9.d }:LG).ep=2 from qsr.2.1] at this
  exact this
 have HCN:=hI (qor wa)
 have HSN:=hI (qrp wa)
 clear XMa XLa
 go_wp2_with fail
 refine HS1.out.mono ?_
 rintro _ _ ⟨rfl,rfl⟩
 go_wp2_with fail
 refine HE2.out.mono ?_
 rintro _ _ ⟨rfl,rfl⟩
 go_wp2_with fail
 refine HS2.out.mono ?_
 rintro _ _ ⟨rfl,rfl⟩
 go_wp2_with fail
 refine HCN.out.mono ?_
 rintro _ _ ⟨rfl,rfl⟩
 go_wp2_with fail
 refine HSN.out.mono ?_
 rintro e wb ⟨v,rfl,hc,hbb⟩
 have HBb:=hI (qad HBa.out hbb)
 have HCb:=hI hc
 clear hc hbb HS1 HS2 HE2 HCN HSN
 go_wp2_with fail
 refine (qbt [logW] 1 v wb (HGL.out wb HBb.out) (Or.inr ⟨by decide,HCb.out⟩)).mono ?_
 rintro e wc ⟨rfl,hbc⟩
 have HBc:=hI (qad HBb.out hbc)
 clear hbc
 go_wp2
 go_ret
 exact ⟨rfl,HBc.out⟩
end Go.Proofs.YtjkecckndfcbjaaGreatDoor
