/- Texts that the law leans on. -/
import Derived.Deep.QuietTactic
import Derived.Test.YtjkecckndfcbjaaGreatDoorKPlyC
import Derived.Test.YtjkecckndfcbjaaGreatDoorKFrmB
import Derived.Test.YtjkecckndfcbjaaGreatDoorKErrD
import Derived.Test.YtjkecckndfcbjaaGreatDoorKLftA
import Derived.Test.YtjkecckndfcbjaaGreatDoorKFewA
import Derived.Test.YtjkecckndfcbjaaGreatDoorKErrA
import Derived.Test.YtjkecckndfcbjaaGreatDoorKRlC
import Derived.Test.YtjkecckndfcbjaaGreatDoorKOpnA
import Derived.Test.YtjkecckndfcbjaaGreatDoorKWawB
namespace Go.Proofs.YtjkecckndfcbjaaGreatDoor
open Go.RowKit Go.Sort
set_option maxRecDepth 100000
instance:Inhabited (List UInt8):=⟨[]⟩
theorem qkn (c:CH) (w:World):Calls Tryz.prog 53 #[chV c] w fun e w'=>e=.returned (chV c)∧Below w.heap.size w w':=by
 unfold chV
 go_enter Tryz.func53,Tryz.ntmps53
 go_wp2
 refine bodyPost_ret (v:=.agg #[.int .i64 c.keep,.string c.trash,.bool c.reset]) (by simp [results,Tryz.results53,go_sem]) rfl ⟨rfl,qab (bel1 w _) _⟩
set_option maxHeartbeats 2000000 in
theorem qnr (A1 A2:Option Addr) (c1 c2:Nat) (d1 d2:Array (List UInt8)) (B1 B2:Nat) (w:World) (h1:RdK eS 1 B1 w A1 d1) (h2:RdK eS 1 B2 w A2 d2) (hm:d2.size≤100000000) :
 Calls Tryz.prog 56 #[.slice A1 d1.size c1,.slice A2 d2.size c2] w fun e w'=>e=.returned (.bool (decide (d1=d2)))∧∃ n,w'=w.drewN n:=by
 by_cases hs:d1.size=d2.size
 ·have hb:((d1.size:Int) != (d2.size:Int))=false:=by simp [hs]
  have HS:=hI hs
  have hge:d1.size≤d2.size:=by omega
  clear hs
  go_enter Tryz.func56,Tryz.ntmps56
  go_wp2
  go_loopw [5] (fun i wr=>∃ k n:Nat,k≤d1.size∧i=.int .i64 k∧wr=w.drewN n∧∀ j,j < k→d1[j]! = d2[j]!) (fun i _=>d1.size - (intOf i).toNat)
  case atStart=>exact ⟨0,0,Nat.zero_le _,rfl,rfl,fun j hj=>absurd hj (by omega)⟩
  case round =>
   obtain ⟨k,n,hk,rfl,rfl,hj⟩:=hrel
   have HJ:=hI hj;clear hj
   by_cases hlt:k < d1.size
   ·obtain ⟨b1,o1,rfl,_,f1⟩:=h1.at_ hlt
    obtain ⟨b2,o2,rfl,_,f2⟩:=h2.at_ (i:=k) (by omega)
    have e10:=f1 0 (by omega)
    have e20:=f2 0 (by omega)
    generalize hx:d1[k]! = x at e10
    generalize hy:d2[k]! = y at e20
    have HXX:=hI hx;clear hx
    have HYY:=hI hy;clear hy
    simp only [Nat.add_zero,Nat.mul_one,eS,List.getElem!_cons_zero] at e10 e20
    clear f1 f2
    have kz:(k:Int) < (d1.size:Int):=by omega
    have kz2:(k:Int) < (d2.size:Int):=by omega
    by_cases hxy:x=y
    ·have hnx:(x == y)=true:=by simp [hxy]
     have HXY:=hI hxy;clear hxy
     go_wp2
     go_quiet (fail)
     go_wp2
     go_roundw
     case rel=>exact ⟨k + 1,_,by omega,by go_num,rfl,fun j hj=>by
      rcases Nat.lt_or_ge j k with h | h
      ·exact HJ.out j h
      ·obtain rfl:j=k:=by omega
       rw [HXX.out,HYY.out];exact HXY.out⟩
     case measure=>simp [intOf];omega
    ·have hnx:(x == y)=false:=by simp [hxy]
     have HXY:=hI hxy;clear hxy
     go_wp2
     go_quiet (fail)
     go_wp2
     go_ret
     exact ⟨qah (by symm;rw [decide_eq_false_iff_not];rintro rfl;exact HXY.out (by rw [←HXX.out,←HYY.out])),_,World.drewN_drewN _ _ _⟩
   ·have hlt':decide ((k:Int) < (d1.size:Int))=false:=by simp;omega
    go_wp2
    go_ret
    exact ⟨qah (by symm;rw [decide_eq_true_iff];exact qrv HS.out fun j hj=>HJ.out j (by omega)),n,rfl⟩
 ·have hb:((d1.size:Int) != (d2.size:Int))=true:=by simp;omega
  have HS:=hI hs
  clear hs
  go_enter Tryz.func56,Tryz.ntmps56
  go_wp2
  go_ret
  exact ⟨qah (by symm;rw [decide_eq_false_iff_not];rintro rfl;exact HS.out rfl),0,rfl⟩
end Go.Proofs.YtjkecckndfcbjaaGreatDoor
namespace Go.Proofs.YtjkecckndfcbjaaGreatDoor
open Go.RowKit
set_option maxRecDepth 100000
set_option maxHeartbeats 8000000 in
theorem qym (d:DK) (g:Nat) (w:World) (hg:Glob w) (h:DAt w g d) (hok:d.ok) (ho:d.ops≤999999990) :
 Calls Tryz.prog 17 #[.pointer (some ⟨g,0,none⟩),rdV (rdOf d)] w fun e w'=>e=.returned (.bool true)∧Below w.heap.size w w':=by
 have h0:=hI h
 have HOK:=hI hok
 have HG:=hI (fun (W:World) (hb:Below w.heap.size w W)=>hg.below hb)
 have HRA:Hid (∀ (i:Int) (W:World),Calls Tryz.prog 39 #[rdV (rdOf d),.int .i64 i] W (qhm (qdz d i) W)):=fun i W=>by
  have:=qgw (rdOf d) i W (qfj hok (by omega))
  rw [qgy hok] at this
  exact this
 have HDE:=hI (fun (W:World) (hb:Below w.heap.size w W)=>dead_any d g W (h.below hb) hok)
 have HOP:=hI (fun (W:World) (hb:Below w.heap.size w W)=>ops_any d g W (h.below hb) hok)
 obtain ⟨r,hr⟩:∃ r,rdOf d=r:=⟨_,rfl⟩
 have HSZ:Hid (r.a.size=(d.get 0).safe∧r.b.size=(d.get 1).safe):=by
  have h1:=hok.a
  have h2:=hok.b
  show _∧_
  rw [←hr]
  unfold rdOf DK.get
  simp only [ByteArray.size_extract]
  constructor
  ·show _=d.f0.safe;omega
  ·show _=d.f1.safe;omega
 have hd1:d.dead=r.dead:=by rw [←hr];rfl
 have hd2:d.ops=r.ops:=by rw [←hr];rfl
 rw [hd1] at HDE
 rw [hd2] at HOP
 rw [hr] at HRA ⊢
 clear hd1 hd2 hr hg h hok ho
 obtain ⟨a,b,c,e,hh,kk,R,O,M,D⟩:=r
 dsimp only at HDE HOP HSZ
 unfold rdV qcc
 dsimp only
 go_enter Tryz.func17,Tryz.ntmps17
 go_wp2
 go_loopw [5] (fun iv wr=>∃ k:Nat,iv=.int .i64 (k:Int)∧k≤2∧Hid (wr.heap[w.heap.size]?=some (.cells #[.string a,.string b,.string c,.string e,.bool hh,.bool kk,.int .i64 (R:Int),.int .i64 (O:Int),.int .i64 (M:Int),.bool D] 33 (0,0)))∧Hid (Below w.heap.size w wr)) (fun i _=>2 - (intOf i).toNat)
 case atStart=>exact ⟨0,rfl,by omega,hI (qao w _),hI (bel1 w _)⟩
 case round =>
  obtain ⟨k,rfl,hk,HX,HB⟩:=hrel
  obtain rfl | rfl | rfl:k=0∨k=1∨k=2:=by omega
  ·have HRD:=hI (fun (W:World) (hb:Below w.heap.size w W)=>qje d g 0 W (h0.out.below hb) HOK.out)
   have HRR:=hI (fun (W:World)=>HRA.out 0 W)
   have HSY:=hI (fun (W:World) (hb:Below w.heap.size w W)=>qnb d g 0 W (h0.out.below hb) HOK.out (by omega))
   generalize qdz d 0=X at HRD HRR
   obtain ⟨t,c⟩:=X
   dsimp only at HRD HRR
   unfold qhm rdV qcc at HRR
   dsimp only at HRR
   have hsz:((a.size:Nat):Int)=((d.get 0).safe:Int):=by have:=HSZ.out.1;rw [this]
   have hlz:=qaa HX.out
   obtain ⟨p0,p1,p2,p3,p4,p5,p6,p7,p8,p9⟩:=qat HX.out
   go_wp2_with fail
   refine (HRD.out _ HB.out).mono ?_
   rintro e w2 ⟨v,rfl,hv,hb2⟩
   have HX2:=hI ((hb2.block _ hlz).trans HX.out)
   have HB2:=hI (qac HB.out hb2)
   have HV2:=hI hv
   clear hb2 hv hlz p0 p1 p2 p3 p4 p5 p6 p7 p8 p9
   have hlz:=qaa HX2.out
   obtain ⟨p0,p1,p2,p3,p4,p5,p6,p7,p8,p9⟩:=qat HX2.out
   go_wp2_with fail
   refine (HRR.out _).mono ?_
   rintro e w3 ⟨rfl,hb3⟩
   have HX3:=hI ((hb3.block _ hlz).trans HX2.out)
   have HB3:=hI (qac HB2.out hb3)
   have HV3:=hI (HV2.out.below hb3)
   clear hb3 HX2 HB2 HV2 hlz p0 p1 p2 p3 p4 p5 p6 p7 p8 p9
   have hlz:=qaa HX3.out
   obtain ⟨p0,p1,p2,p3,p4,p5,p6,p7,p8,p9⟩:=qat HX3.out
   have a0:=fun p:ExtW w3=>p.cell (a:=⟨w.heap.size,0,none⟩) hlz p0
   have a1:=fun p:ExtW w3=>p.cell (a:=⟨w.heap.size,1,none⟩) hlz p1
   have HC3:=hI (fun p:ExtW w3=>qgh _ (c:Int) v p.to (HG.out p.to (qac HB3.out p.h)) (HV3.out.below p.h))
   have HS3:=hI (fun p:ExtW w3=>HSY.out p.to (qac HB3.out p.h))
   clear HSY HRD HRR
   go_wp2_with fail
   refine qaj (by kernel_rfl) (by kernel_rfl) ?_
   repeat (first | go_big_quiet_step (first | (go_at_call 15;exact Calls.ext_of (HC3.out _)) | (go_at_call 49;exact Calls.ext_same (HS3.out _))) | quiet_step (fail))
   refine wpQuiet_nil ?_
   intro wq hw'
   obtain ⟨⟨W,hbW⟩,hw''⟩:=hw'
   have hw3:wq=W:=hw''
   subst hw3
   have HX4:=hI ((hbW.block _ hlz).trans HX3.out)
   have HB4:=hI (qac HB3.out hbW)
   clear hbW hw'' a0 a1 p0 p1 p2 p3 p4 p5 p6 p7 p8 p9
   go_wp2
   go_roundw
   case rel=>exact ⟨1,by go_num,by omega,HX4,HB4⟩
   case measure=>simp [intOf]
  ·have HRD:=hI (fun (W:World) (hb:Below w.heap.size w W)=>qje d g 1 W (h0.out.below hb) HOK.out)
   have HRR:=hI (fun (W:World)=>HRA.out 1 W)
   have HSY:=hI (fun (W:World) (hb:Below w.heap.size w W)=>qnb d g 1 W (h0.out.below hb) HOK.out (by omega))
   generalize qdz d 1=X at HRD HRR
   obtain ⟨t,c⟩:=X
   dsimp only at HRD HRR
   unfold qhm rdV qcc at HRR
   dsimp only at HRR
   have hsz:((b.size:Nat):Int)=((d.get 1).safe:Int):=by have:=HSZ.out.2;rw [this]
   have hlz:=qaa HX.out
   obtain ⟨p0,p1,p2,p3,p4,p5,p6,p7,p8,p9⟩:=qat HX.out
   go_wp2_with fail
   refine (HRD.out _ HB.out).mono ?_
   rintro e w2 ⟨v,rfl,hv,hb2⟩
   have HX2:=hI ((hb2.block _ hlz).trans HX.out)
   have HB2:=hI (qac HB.out hb2)
   have HV2:=hI hv
   clear hb2 hv hlz p0 p1 p2 p3 p4 p5 p6 p7 p8 p9
   have hlz:=qaa HX2.out
   obtain ⟨p0,p1,p2,p3,p4,p5,p6,p7,p8,p9⟩:=qat HX2.out
   go_wp2_with fail
   refine (HRR.out _).mono ?_
   rintro e w3 ⟨rfl,hb3⟩
   have HX3:=hI ((hb3.block _ hlz).trans HX2.out)
   have HB3:=hI (qac HB2.out hb3)
   have HV3:=hI (HV2.out.below hb3)
   clear hb3 HX2 HB2 HV2 hlz p0 p1 p2 p3 p4 p5 p6 p7 p8 p9
   have hlz:=qaa HX3.out
   obtain ⟨p0,p1,p2,p3,p4,p5,p6,p7,p8,p9⟩:=qat HX3.out
   have a0:=fun p:ExtW w3=>p.cell (a:=⟨w.heap.size,0,none⟩) hlz p0
   have a1:=fun p:ExtW w3=>p.cell (a:=⟨w.heap.size,1,none⟩) hlz p1
   have HC3:=hI (fun p:ExtW w3=>qgh _ (c:Int) v p.to (HG.out p.to (qac HB3.out p.h)) (HV3.out.below p.h))
   have HS3:=hI (fun p:ExtW w3=>HSY.out p.to (qac HB3.out p.h))
   clear HSY HRD HRR
   go_wp2_with fail
   refine qaj (by kernel_rfl) (by kernel_rfl) ?_
   repeat (first | go_big_quiet_step (first | (go_at_call 15;exact Calls.ext_of (HC3.out _)) | (go_at_call 49;exact Calls.ext_same (HS3.out _))) | quiet_step (fail))
   refine wpQuiet_nil ?_
   intro wq hw'
   obtain ⟨⟨W,hbW⟩,hw''⟩:=hw'
   have hw3:wq=W:=hw''
   subst hw3
   have HX4:=hI ((hbW.block _ hlz).trans HX3.out)
   have HB4:=hI (qac HB3.out hbW)
   clear hbW hw'' a0 a1 p0 p1 p2 p3 p4 p5 p6 p7 p8 p9
   go_wp2
   go_roundw
   case rel=>exact ⟨2,by go_num,by omega,HX4,HB4⟩
   case measure=>simp [intOf]
  ·have hlz:=qaa HX.out
   obtain ⟨p0,p1,p2,p3,p4,p5,p6,p7,p8,p9⟩:=qat HX.out
   have a0:=fun p:ExtW wr=>p.cell (a:=⟨w.heap.size,7,none⟩) hlz p7
   have a1:=fun p:ExtW wr=>p.cell (a:=⟨w.heap.size,9,none⟩) hlz p9
   have HD1:=hI (fun p:ExtW wr=>HDE.out _ (qac HB.out p.h))
   have HO1:=hI (fun p:ExtW wr=>HOP.out _ (qac HB.out p.h))
   go_wp2_with fail
   refine qaj (by kernel_rfl) (by kernel_rfl) ?_
   repeat (first | go_big_quiet_step (first | (go_at_call 50;exact Calls.ext_same (HD1.out _)) | (go_at_call 51;exact Calls.ext_same (HO1.out _))) | quiet_step (fail))
   refine wpQuiet_nil ?_
   intro wq hw'
   obtain ⟨⟨W,hbW⟩,hw''⟩:=hw'
   have hw3:wq=W:=hw''
   subst hw3
   have HBW:=hI (qac HB.out hbW)
   clear hbW hw'' a0 a1
   go_wp2
   go_ret
   exact ⟨rfl,HBW.out⟩
end Go.Proofs.YtjkecckndfcbjaaGreatDoor
namespace Go.Proofs.YtjkecckndfcbjaaGreatDoor
open Go.RowKit Go.Sort Crc Nb
set_option maxRecDepth 100000
theorem rd_own_ev {W:World} {B:Nat} {A:Option Addr} {c:Nat} {evs:List EV} (h:W.ownsRow B 56 2 (.slice A (evA evs).size c) (evA evs).size (flatK qbm 2 (evA evs)).toList):RdK qbm 2 W.heap.size W A (evA evs):=by
 obtain ⟨A',c',e',hrk,-⟩:=qbj h
 injection e' with e1 e2 e3
 rw [←e1] at hrk
 exact hrk
def OpS (g n:Nat) (X:OG) (pv:Value) (W:World):Prop:=DAt W g X.l.d∧((X.e≠0∧pv=.pointer none)∨(X.e=0∧∃ h,pv=.pointer (some ⟨h,0,none⟩)∧n≤h∧LAt W h g X.l))
theorem OpS.below {g n:Nat} {X:OG} {pv:Value} {W W':World} (x:OpS g n X pv W) (hb:Below W.heap.size W W'):OpS g n X pv W':=by
 obtain ⟨h1,h2 | ⟨h2,h,h3,h4,h5⟩⟩:=x
 ·exact ⟨h1.below hb,Or.inl h2⟩
 ·exact ⟨h1.below hb,Or.inr ⟨h2,h,h3,h4,h5.below hb⟩⟩
theorem OpS.but {g n b:Nat} {X:OG} {pv:Value} {W W':World} (x:OpS g n X pv W) (hb:But b W W') (hg:g≠b) (hn:b < n):OpS g n X pv W':=by
 obtain ⟨h1,h2 | ⟨h2,h,h3,h4,h5⟩⟩:=x
 ·exact ⟨h1.but hb hg,Or.inl h2⟩
 ·exact ⟨h1.but hb hg,Or.inr ⟨h2,h,h3,h4,h5.but hb hg (by omega)⟩⟩
theorem OpS.mono {g n m:Nat} {X:OG} {pv:Value} {W:World} (x:OpS g n X pv W) (h:m≤n):OpS g m X pv W:=by
 obtain ⟨h1,h2 | ⟨h2,k,h3,h4,h5⟩⟩:=x
 ·exact ⟨h1,Or.inl h2⟩
 ·exact ⟨h1,Or.inr ⟨h2,k,h3,Nat.le_trans h h4,h5⟩⟩
end Go.Proofs.YtjkecckndfcbjaaGreatDoor
