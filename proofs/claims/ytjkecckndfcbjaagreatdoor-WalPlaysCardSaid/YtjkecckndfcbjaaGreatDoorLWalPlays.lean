/- Whatever is done to a log, and to its disk, it tells, and leaves the disk, as the document says; for every input (the card ties the variable errors.errorType to the program's text). -/
import Derived.Deep.Fields
import Derived.Deep.Slices
import Derived.Lib.SmallJoins
import Derived.Test.YtjkecckndfcbjaaGreatDoorPPlyG
import Derived.Test.YtjkecckndfcbjaaGreatDoorPDoB
import Derived.Test.YtjkecckndfcbjaaGreatDoorPOpenW
import Derived.Test.YtjkecckndfcbjaaGreatDoorPLawG
import Derived.Test.YtjkecckndfcbjaaGreatDoorPOwnK
import Derived.Test.YtjkecckndfcbjaaGreatDoorPRecA
import Derived.Test.YtjkecckndfcbjaaGreatDoorPTelB
namespace Go.Proofs.YtjkecckndfcbjaaGreatDoor.walPlays
open Go.ChangeShapes Go.WideShapes Go.ChangeAt Go.RowKit Go.Sort Nb
set_option maxRecDepth 100000
theorem PxS.mono {g h n m:Nat} {k:Int} {pv:Value} {l':LG} {W:World} (x:PxS g h n k pv l' W) (hm:m≤n):PxS g h m k pv l' W:=by
 obtain ⟨h1,h2 | ⟨h',h3,h4,h5⟩⟩:=x
 ·exact ⟨h1,Or.inl h2⟩
 ·exact ⟨h1,Or.inr ⟨h',h3,h4.imp id (Nat.le_trans hm),h5⟩⟩
structure WpS (w0 w:World) (q g h k:Nat) (l:LG):Prop where
 box:w.heap[q]?=some (.cells (qsv (rlOf l)).toArray 41 (0,0))
 lat:LAt w h g l
 lv:LV (10 + 3 * k) l
 bel:Below w0.heap.size w0 w
 hh:w0.heap.size≤h
 hq:h≠q
set_option maxHeartbeats 16000000 in
theorem walk (room:Int) (first:ByteArray) (A:Option Addr) (c:Nat) (d:Array AC) (w:World) (hg:Glob w) (ra:RdK qhm 13 w.heap.size w A d) :
 Calls Tryz.prog 4 #[.int .i64 room,.string first,.slice A d.size c] w fun e w'=>e=.returned (.bool true)∧Below w.heap.size w w':=by
 have HGL:=hI (fun (W:World) (hb:Below w.heap.size w W)=>hg.below hb)
 have HAW:=hI (fun (W:World) (hb:Below w.heap.size w W)=>qsy W (hg.below hb))
 have HF:=hI (few13_any A c d w ra)
 have HRA:=hI ra
 obtain ⟨g1,hg1⟩:∃ g,qsi d=g:=⟨_,rfl⟩
 rw [hg1] at HF
 have HG1:=hI hg1
 clear hg ra hg1
 cases g1
 ·as_aux_lemma =>
  go_enter Tryz.func4,Tryz.ntmps4
  go_wp2_with (first | (go_at_call 6;refine HF.out.mono ?_;rintro e w1 ⟨rfl,hb1⟩;have HB1:=hI hb1;clear hb1) | (go_at_call 7;refine (HAW.out _ HB1.out).mono ?_;rintro e w2 ⟨rfl,hb2⟩;have HB2:=hI (qad HB1.out hb2);clear hb2))
  go_ret
  exact ⟨rfl,HB2.out⟩
 by_cases hz:19000 < first.size
 ·have hz':decide ((19000:Int) < (first.size:Int))=true:=decide_eq_true (by omega)
  clear hz
  as_aux_lemma =>
  go_enter Tryz.func4,Tryz.ntmps4
  go_wp2_with (first | (go_at_call 6;refine HF.out.mono ?_;rintro e w1 ⟨rfl,hb1⟩;have HB1:=hI hb1;clear hb1) | (go_at_call 7;refine (HAW.out _ HB1.out).mono ?_;rintro e w2 ⟨rfl,hb2⟩;have HB2:=hI (qad HB1.out hb2);clear hb2))
  go_ret
  exact ⟨rfl,HB2.out⟩
 have hz':decide ((19000:Int) < (first.size:Int))=false:=decide_eq_false (by omega)
 by_cases hr1:room < 1
 ·as_aux_lemma =>
  go_enter Tryz.func4,Tryz.ntmps4
  go_wp2_with (first | (go_at_call 6;refine HF.out.mono ?_;rintro e w1 ⟨rfl,hb1⟩;have HB1:=hI hb1;clear hb1) | (go_at_call 7;refine (HAW.out _ HB1.out).mono ?_;rintro e w2 ⟨rfl,hb2⟩;have HB2:=hI (qad HB1.out hb2);clear hb2))
  go_ret
  exact ⟨rfl,HB2.out⟩
 by_cases hr2:100000 < room
 ·as_aux_lemma =>
  go_enter Tryz.func4,Tryz.ntmps4
  go_wp2_with (first | (go_at_call 6;refine HF.out.mono ?_;rintro e w1 ⟨rfl,hb1⟩;have HB1:=hI hb1;clear hb1) | (go_at_call 7;refine (HAW.out _ HB1.out).mono ?_;rintro e w2 ⟨rfl,hb2⟩;have HB2:=hI (qad HB1.out hb2);clear hb2))
  go_ret
  exact ⟨rfl,HB2.out⟩
 obtain ⟨n,rfl⟩:∃ n:Nat,room=(n:Int):=⟨room.toNat,by omega⟩
 have hn1:1≤n:=by omega
 have hn2:n≤100000:=by omega
 have hr1':decide ((n:Int) < 1)=false:=decide_eq_false hr1
 have hr2':decide ((100000:Int) < (n:Int))=false:=decide_eq_false hr2
 obtain ⟨hd40,hsm⟩:=qho.1 HG1.out
 have HSM:=hI hsm
 have hok:=newD_ok n hn1 (by omega)
 have HOK:=hI hok
 have HLV0:=hI (qop (o:=0) hok (Nat.le_refl 0) first)
 have HSZ:Hid ((evA (qaw (newD n) first).evs).size≤1000000):=by
  show _≤_
  rw [qbu]
  unfold qaw
  have e0:qal (newD n).f0=zT:=tellF_z
  have e1:qal (newD n).f1=zT:=tellF_z
  rw [if_neg (by show ¬ false=true;simp),e0,e1,if_pos ⟨rfl,rfl⟩]
  unfold outG
  split
  ·exact Nat.zero_le _
  ·exact Nat.zero_le _
 clear hz hsm hok hr1 hr2
 go_enter Tryz.func4,Tryz.ntmps4
 go_wp2_with (go_at_call 6;refine HF.out.mono ?_;rintro e w1 ⟨rfl,hb1⟩;have HB1:=hI hb1;clear hb1)
 clear HF
 refine (qpx n w1 hn1 (by omega)).mono ?_
 rintro e w2 ⟨g,hgw,rfl,hd2,hb2⟩
 have hgw2:w.heap.size≤g:=Nat.le_trans HB1.out.size hgw
 have D2:Hid (DAt w2 g (newD n)):=hd2
 have HB2:=hI (qad HB1.out hb2)
 clear hd2 hb2 hgw
 go_wp2_with fail
 have HRN:Hid (∀ W,Calls Tryz.prog 9 #[.int .i64 (n:Int)] W fun e w'=>e=.returned (.tuple #[.agg #[.string ⟨#[]⟩,.string ⟨#[]⟩,.string ⟨#[]⟩,.string ⟨#[]⟩,.bool false,.bool false,.int .i64 (n:Int),.int .i64 0,.int .i64 0,.bool false],.int .i64 0])∧Below W.heap.size W w'):=fun W=>by
  have h:=rNew_any (n:Int) W
  unfold qet rNewQ at h
  rw [if_neg (by omega)] at h
  exact h
 refine (HRN.out w2).mono ?_
 rintro e w3 ⟨rfl,hb3⟩
 have D3:=hI (D2.out.below hb3)
 have HB3:=hI (qad HB2.out hb3)
 clear hb3 D2 HRN
 go_wp2_with fail
 refine (qie (newD n) g first _ (HGL.out _ (qab HB3.out _)) (D3.out.below (bel1 w3 _)) HOK.out (Nat.zero_le _)).mono ?_
 rintro e w4 hx
 obtain ⟨pv,A4,c4,ev,ops,rfl,hrow4,hev4,hops4,hb4⟩:=qqs hx
 have hgl3:=D3.out.lt
 have HX4:Hid (w4.heap[w3.heap.size]?=some (.cells #[.string ⟨#[]⟩,.string ⟨#[]⟩,.string ⟨#[]⟩,.string ⟨#[]⟩,.bool false,.bool false,.int .i64 (n:Int),.int .i64 0,.int .i64 0,.bool false] 33 (0,0))):=hb4.heap (qas w3 _) (by omega)
 have HB4:=hI (hb4.below (qab HB3.out (.cells #[.string ⟨#[]⟩,.string ⟨#[]⟩,.string ⟨#[]⟩,.string ⟨#[]⟩,.bool false,.bool false,.int .i64 (n:Int),.int .i64 0,.int .i64 0,.bool false] 33)) hgw2 (qab HB3.out _).size)
 have HV4:=hI hev4
 have HR4:=hI hrow4
 have HO4:Hid (OpS g w.heap.size (qaw (newD n) first) pv w4):=hops4.mono (by have:=HB3.out.size;simp;omega)
 clear hx hrow4 hev4 hops4 hb4 D3
 obtain ⟨p0,p1,p2,p3,p4,p5,p6,p7,p8,p9⟩:=qam HX4.out
 go_wp2_with fail
 have HRO:Hid (Calls Tryz.prog 11 #[.agg #[.string ⟨#[]⟩,.string ⟨#[]⟩,.string ⟨#[]⟩,.string ⟨#[]⟩,.bool false,.bool false,.int .i64 (n:Int),.int .i64 0,.int .i64 0,.bool false],.string first] w4 (qjg (rlOf (qaw (newD n) first).l) (qaw (newD n) first).st (qaw (newD n) first).evs (qaw (newD n) first).e w4)):=qqt (newD n) first w4 HOK.out (Nat.zero_le _)
 generalize qaw (newD n) first=X at HV4 HR4 HO4 HRO HLV0 HSZ ⊢
 obtain ⟨lx,hlx⟩:∃ y,rlOf X.l=y:=⟨_,rfl⟩
 rw [hlx] at HRO
 have HLX:=hI hlx
 clear hlx
 obtain ⟨⟨oa,ob,oc,oe,oh,ok,oR,oO,oM,oD⟩,of,op,oq,os⟩:=lx
 unfold qjg at HRO
 rw [qce] at HRO
 refine HRO.out.mono ?_
 rintro e w5 ⟨v5,rfl,hrow5,hb5⟩
 obtain ⟨A5,c5,rfl⟩:=qcm hrow5
 have HB5:=hI (qad HB4.out hb5)
 have HR5:=hI (qat HR4.out hb5)
 have HV5:=hI (HV4.out.below hb5)
 have HO5:=hI (HO4.out.below hb5)
 have HRB5:=hI hrow5
 clear hb5 hrow5 HRO HR4 HV4 HO4 HX4 HB4 p0 p1 p2 p3 p4 p5 p6 p7 p8 p9
 go_upto_region 9 with fail
 obtain ⟨q,hq⟩:∃ q,q=w5.heap.size:=⟨_,rfl⟩
 rw [←hq]
 generalize hw7:w5.alloc (.cells #[.string oa,.string ob,.string oc,.string oe,.bool oh,.bool ok,.int .i64 (oR:Int),.int .i64 (oO:Int),.int .i64 (oM:Int),.bool oD,.int .i64 (of:Int),.int .i64 (op:Int),.int .i64 (oq:Int),.bool os] 41)=w7
 have hb7:Below w5.heap.size w5 w7:=by rw [←hw7];exact bel1 w5 _
 have HX7:Hid (w7.heap[q]?=some (.cells #[.string oa,.string ob,.string oc,.string oe,.bool oh,.bool ok,.int .i64 (oR:Int),.int .i64 (oO:Int),.int .i64 (oM:Int),.bool oD,.int .i64 (of:Int),.int .i64 (op:Int),.int .i64 (oq:Int),.bool os] 41 (0,0))):=by show _=_;rw [←hw7,hq];exact qas w5 _
 have HB7:=hI (qad HB5.out hb7)
 have HO7:=hI (HO5.out.below hb7)
 have hgq:g≠q:=by have:=HO5.out.1.lt;omega
 have hwq:w.heap.size≤q:=by have:=HB5.out.size;omega
 have HLQ:Hid (∀ h l,LAt w5 h g l→h≠q):=fun h l hx=>by have:=hx.lth;omega
 have HSE:Hid (Calls Tryz.prog 13 #[.slice A4 (evA X.evs).size c4,.slice A5 (evA X.evs).size c5] w7 fun e w'=>e=.returned (.bool true)∧∃ n,w'=w7.drewN n):=by
  have h:=qtx A4 A5 c4 c5 (evA X.evs) (evA X.evs) _ _ w7 (qhy (qat HR5.out hb7)) (qhy (qat HRB5.out hb7)) (by have:=HSZ.out;omega)
  rw [decide_eq_true rfl] at h
  exact h
 have HCO:Hid (∀ n,Calls Tryz.prog 15 #[ev] (w7.drewN n) fun e w'=>e=.returned (.int .i64 (X.e:Int))∧Below (w7.drewN n).heap.size (w7.drewN n) w'):=fun n=>qbt ops (X.e:Int) ev (w7.drewN n) (HGL.out _ (qao HB7.out n)) ((HV5.out.below hb7).below (qao (Below.refl _ _) n))
 have HOL:Hid (X.e=0→∃ h,pv=.pointer (some ⟨h,0,none⟩)∧w.heap.size≤h∧LAt w7 h g X.l∧h≠q):=fun h0=>by
  obtain ⟨-,⟨h1,-⟩ | ⟨-,h,h2,h3,h4⟩⟩:=HO5.out
  ·exact absurd h0 h1
  ·exact ⟨h,h2,h3,h4.below hb7,HLQ.out h _ h4⟩
 clear hq hw7 hb7 HB5 HR5 HV5 HO5 HRB5 HSZ HLQ
 go_upto_region 12 with (first | (go_at_call 13;refine HSE.out.mono ?_;rintro e w8 ⟨rfl,n8,rfl⟩) | (go_at_call 15;refine (HCO.out _).mono ?_;rintro e w9 ⟨rfl,hb9⟩;have HB9:=hI (qad (qao (Below.refl _ _) _) hb9);clear hb9))
 have HB9w:=hI (qad HB7.out HB9.out)
 have HX9:=hI ((HB9.out.block _ (qaa HX7.out)).trans HX7.out)
 by_cases hxe:X.e=0
 rotate_left
 ·have e1:((X.e:Int) == 0)=false:=by simp;omega
  have e1':(X.e == 0)=false:=by simp;omega
  clear hxe HOL HLX HLV0 HX7 HB7 HX9 HSE HCO HB9 HSM HG1
  go_loopw [19] (fun iv wr=>iv=.int .i64 0∧Hid (Below w.heap.size w wr)) (fun _ _=>0)
  case atStart=>exact ⟨rfl,HB9w⟩
  case round =>
   obtain ⟨rfl,HBA⟩:=hrel
   by_cases hdz:0 < d.size
   ·have kz:(0:Int) < (d.size:Int):=by omega
    go_wp2_with (go_at_call 7;refine (HAW.out _ HBA.out).mono ?_;rintro e wa ⟨rfl,hba⟩;have HBE:=hI (qad HBA.out hba);clear hba)
    go_ret
    exact ⟨rfl,HBE.out⟩
   ·have kz:decide ((0:Int) < (d.size:Int))=false:=decide_eq_false (by omega)
    have kz':decide (0 < d.size)=false:=decide_eq_false hdz
    go_wp2_with (go_at_call 7;refine (HAW.out _ HBA.out).mono ?_;rintro e wa ⟨rfl,hba⟩;have HBE:=hI (qad HBA.out hba);clear hba)
    go_ret
    exact ⟨rfl,HBE.out⟩
 obtain ⟨h,rfl,hwh,hlat,hne⟩:=HOL.out hxe
 have e1:((X.e:Int) == 0)=true:=by simp;omega
 have e1':(X.e == 0)=true:=by simp;omega
 have HW0:Hid (WpS w w9 q g h 0 X.l):=⟨by rw [HLX.out];exact HX9.out,hlat.below HB9.out,HLV0.out.more (by omega),HB9w.out,hwh,hne⟩
 clear hxe HOL HLX HLV0 HX7 HB7 HX9 HSE HCO HB9 HB9w hlat hne hwh HG1
 go_loopw [11,19] (fun pw iv wr=>∃ (k h:Nat) (l:LG),iv=.int .i64 (k:Int)∧pw=.pointer (some ⟨h,0,none⟩)∧k≤d.size∧Hid (WpS w wr q g h k l)) (fun _ i _=>d.size - (intOf i).toNat)
 case atStart=>exact ⟨0,h,X.l,rfl,rfl,Nat.zero_le _,HW0⟩
 case round =>
  obtain ⟨k,h,l,rfl,rfl,hk,HW⟩:=hrel
  clear HW0
  by_cases hlt:k < d.size
  rotate_left
  ·have kz:decide ((k:Int) < (d.size:Int))=false:=decide_eq_false (by omega)
   have kz':decide (k < d.size)=false:=decide_eq_false hlt
   have HBA:=hI HW.out.bel
   go_wp2_with (go_at_call 7;refine (HAW.out _ HBA.out).mono ?_;rintro e wa ⟨rfl,hba⟩;have HBE:=hI (qad HBA.out hba);clear hba)
   go_ret
   exact ⟨rfl,HBE.out⟩
  have kz:(k:Int) < (d.size:Int):=by omega
  have hgl:=HW.out.lat.ltg
  have hhl:=HW.out.lat.lth
  have hhq:=HW.out.hq
  have hwh:=HW.out.hh
  have hql:q < wr.heap.size:=qaa HW.out.box
  obtain ⟨b2,off,rfl,hbl,fr⟩:=(HRA.out.below HW.out.bel).at_ (i:=k) hlt
  have HPL:=hI (fun (W:World) (hb:Below wr.heap.size wr W)=>playX_any (10 + 3 * k) l d[k]! h g W (HGL.out W (qad HW.out.bel hb)) (HW.out.lat.below hb) HW.out.lv (by omega) (HSM.out k hlt))
  have f0:=fr 0 (by omega)
  have f1:=fr 1 (by omega)
  have f2:=fr 2 (by omega)
  have f3:=fr 3 (by omega)
  have f4:=fr 4 (by omega)
  have f5:=fr 5 (by omega)
  have f6:=fr 6 (by omega)
  have f7:=fr 7 (by omega)
  have f8:=fr 8 (by omega)
  have f9:=fr 9 (by omega)
  have f10:=fr 10 (by omega)
  have f11:=fr 11 (by omega)
  have f12:=fr 12 (by omega)
  clear fr
  generalize d[k]! = x at f0 f1 f2 f3 f4 f5 f6 f7 f8 f9 f10 f11 f12 HPL
  obtain ⟨xk,⟨xe1,xe2⟩,xtx,xok,xn,xot,⟨xka,xta,xra⟩,⟨xkb,xtb,xrb⟩⟩:=x
  simp only [qhm,Nat.add_zero,List.getElem!_cons_zero,List.getElem!_cons_succ] at f0 f1 f2 f3 f4 f5 f6 f7 f8 f9 f10 f11 f12
  obtain ⟨lo1,hlo1⟩:∃ y,rlOf l=y:=⟨_,rfl⟩
  have hbx:=HW.out.box
  rw [hlo1] at hbx
  unfold PlayX at HPL
  rw [hlo1] at HPL
  clear hlo1
  obtain ⟨⟨oa0,ob0,oc0,oe0,oh0,ok0,oR0,oO0,oM0,oD0⟩,of0,op0,oq0,os0⟩:=lo1
  unfold qsv at hbx
  dsimp only at hbx
  rw [qce] at HPL
  simp only [qhm] at HPL
  have HBX:=hI hbx
  obtain ⟨p0,p1,p2,p3,p4,p5,p6,p7,p8,p9,p10,p11,p12,p13⟩:=qaf hbx
  have hbw:b2 < wr.heap.size:=by have:=HW.out.bel.size;omega
  clear hbx
  go_upto_region 14 with fail
  go_cut [20,21,22] from 97 to 108 (fun v20 v21 v22 wx=>∃ (m:Nat) (pv':Value) (l':LG),v20=pv'∧v21=.pointer (some ⟨m,0,none⟩)∧v22=.bool true∧Hid (wr.heap.size≤m∧wx.heap[m]?=some (.cells (qsv (rlOf l')).toArray 41 (0,0))∧LV (10 + 3 * k + 3) l'∧PxS g h wr.heap.size xk pv' l' wx∧But2 g h wr wx))
  case first =>
   go_region_with (go_at_call 16;refine (HPL.out _ (by repeat (first | exact Below.refl _ _ | exact bel1 _ _ | refine Below.drew ?_ | refine qao ?_ _ | refine qab ?_ _))).mono ?_;rintro e w6 ⟨pv,l',na,nb,nc,ne,nh,nk,nR,nO,nM,nD,nf,np,nq,ns,rfl,hly,hlv,hps,hbt6⟩;have HLY:=hI hly;have HLV:=hI hlv;(have HPS:Hid (PxS g h wr.heap.size xk pv l' w6):=PxS.mono hps (by first | exact Nat.le_refl _ | (show _≤_;simp)));(have HB6:Hid (But2 g h wr w6):=(But2.of (by repeat (first | exact Below.refl _ _ | exact bel1 _ _ | refine Below.drew ?_ | refine qao ?_ _ | refine qab ?_ _))).trans hbt6);(try (have HM6:Hid (w6.heap[wr.heap.size]?=some (.cells #[.string ⟨#[]⟩,.string ⟨#[]⟩,.string ⟨#[]⟩,.string ⟨#[]⟩,.bool false,.bool false,.int .i64 0,.int .i64 0,.int .i64 0,.bool false,.int .i64 0,.int .i64 0,.int .i64 0,.bool false] 41 (0,0))):=hbt6.heapK (qas wr _) (by omega) (by omega);have HPS1:Hid (PxS g h (wr.heap.size + 1) xk pv l' w6):=PxS.mono hps (by show _≤_;simp);obtain ⟨y0,y1,y2,y3,y4,y5,y6,y7,y8,y9,y10,y11,y12,y13⟩:=qaf HM6.out;obtain ⟨z0,z1,z2,z3,z4,z5,z6,z7,z8,z9,z10,z11,z12,z13⟩:=qaj HM6.out));clear hly hlv hps hbt6)
   all_goals (try go_wp2)
   all_goals first
    | (go_meet;exact ⟨wr.heap.size,pv,l',rfl,rfl,rfl,hI ⟨Nat.le_refl _,by rw [HLY.out];exact qls HM6.out,HLV.out,PxS.mono (HPS1.out.but (qid (But.refl _ _)) (by omega) (by omega) (Nat.lt_succ_self _)) (Nat.le_succ _),qlg HB6.out (Nat.le_refl _)⟩⟩)
    | (go_meet;exact ⟨w6.heap.size,pv,l',rfl,rfl,rfl,hI ⟨HB6.out.size,by rw [HLY.out];exact qas w6 _,HLV.out,HPS.out.below (bel1 w6 _),HB6.out.trans (But2.of (bel1 w6 _))⟩⟩)
  case rest =>
   obtain ⟨m,pv',l',rfl,rfl,rfl,hcm⟩:=hcut
   obtain ⟨hm,hnew,hlv,hps,hbt⟩:=hcm.out
   obtain ⟨ly,hly⟩:∃ y,rlOf l'=y:=⟨_,rfl⟩
   rw [hly] at hnew
   have HLY:=hI hly
   have HXc:=hI (hbt.heap HBX.out (Ne.symm hgq) (Ne.symm hhq))
   have HBc:=hI (hbt.below HW.out.bel hgw2 hwh HW.out.bel.size)
   have HSM2:Hid (∀ W,Below w.heap.size w W→DAt W g l'.d→Calls Tryz.prog 17 #[.pointer (some ⟨g,0,none⟩),rdV ly.d] W fun e w'=>e=.returned (.bool true)∧Below W.heap.size W w'):=fun W hb hd=>by
    have:=qwr l'.d g W (HGL.out W hb) hd hlv.ok (by have:=hlv.ops;omega)
    rw [show rdOf l'.d=ly.d from by rw [←hly];rfl] at this
    exact this
   have HS13:Hid (∀ W h',LAt W h' g l'→Calls Tryz.prog 18 #[.pointer (some ⟨h',0,none⟩),rlV ly] W fun e w'=>e=.returned (.bool true)∧Below W.heap.size W w'):=fun W h' hx=>by
    have:=qwq l' h' g W hx
    rw [hly] at this
    exact this
   obtain ⟨⟨na,nb,nc,ne,nh,nk,nR,nO,nM,nD⟩,nf,np,nq,ns⟩:=ly
   unfold qsv at hnew
   unfold rdV qbh at HSM2
   rw [qce] at HS13
   dsimp only at hnew HSM2
   have HNc:=hI hnew
   have HLV:=hI hlv
   have HPS:=hI hps
   have hmw:m≠q:=by omega
   clear hcm hnew hlv hps hbt hly HPL HBX p0 p1 p2 p3 p4 p5 p6 p7 p8 p9 p10 p11 p12 p13
   obtain ⟨p0,p1,p2,p3,p4,p5,p6,p7,p8,p9,p10,p11,p12,p13⟩:=qaf HXc.out
   obtain ⟨q0,q1,q2,q3,q4,q5,q6,q7,q8,q9,q10,q11,q12,q13⟩:=qaj HXc.out
   obtain ⟨n0,n1,n2,n3,n4,n5,n6,n7,n8,n9,n10,n11,n12,n13⟩:=qaf HNc.out
   go_wp2_with fail
   go_region
   go_upto_region 16 with fail
   generalize hw5:(((((((((((((((wc.setCell ⟨q,0,none⟩ (.string na)).setCell ⟨q,1,none⟩ (.string nb)).setCell ⟨q,2,none⟩ (.string nc)).setCell ⟨q,3,none⟩ (.string ne)).setCell ⟨q,4,none⟩ (.bool nh)).setCell ⟨q,5,none⟩ (.bool nk)).setCell ⟨q,6,none⟩ (.int .i64 (nR:Int))).setCell ⟨q,7,none⟩ (.int .i64 (nO:Int))).setCell ⟨q,8,none⟩ (.int .i64 (nM:Int))).setCell ⟨q,9,none⟩ (.bool nD)).setCell ⟨q,10,none⟩ (.int .i64 (nf:Int))).setCell ⟨q,11,none⟩ (.int .i64 (np:Int))).setCell ⟨q,12,none⟩ (.int .i64 (nq:Int))).setCell ⟨q,13,none⟩ (.bool ns))).drew=w5
   have HBU:Hid (But q wc w5):=by rw [←hw5];exact (qid (But.refl _ _)).drew
   have HX5:Hid (w5.heap[q]?=some (.cells #[.string na,.string nb,.string nc,.string ne,.bool nh,.bool nk,.int .i64 (nR:Int),.int .i64 (nO:Int),.int .i64 (nM:Int),.bool nD,.int .i64 (nf:Int),.int .i64 (np:Int),.int .i64 (nq:Int),.bool ns] 41 (0,0))):=by rw [←hw5];exact qqr (qls HXc.out)
   have HP5:=hI (HPS.out.but HBU.out hgq hhq hql)
   have HB5:Hid (Below w.heap.size w w5):=HBU.out.below HBc.out hwq HBc.out.size
   clear hw5 HBU HXc HNc HBc HPS p0 p1 p2 p3 p4 p5 p6 p7 p8 p9 p10 p11 p12 p13 q0 q1 q2 q3 q4 q5 q6 q7 q8 q9 q10 q11 q12 q13 n0 n1 n2 n3 n4 n5 n6 n7 n8 n9 n10 n11 n12 n13
   obtain ⟨p0,p1,p2,p3,p4,p5,p6,p7,p8,p9,p10,p11,p12,p13⟩:=qaf HX5.out
   go_wp2_with fail
   refine (HSM2.out _ HB5.out HP5.out.1).mono ?_
   rintro e w6 ⟨rfl,hb6⟩
   have HX6:=hI ((hb6.block _ (qaa HX5.out)).trans HX5.out)
   have HP6:=hI (HP5.out.below hb6)
   have HBA:=hI (qad HB5.out hb6)
   clear hb6 HX5 HP5 HB5 HSM2 p0 p1 p2 p3 p4 p5 p6 p7 p8 p9 p10 p11 p12 p13
   rcases HP6.out.2 with ⟨rfl,rfl⟩ | ⟨h',rfl,hh',hlat'⟩
   ·have d0:w6.cell? ⟨b2,off + k * 13,none⟩=some (.int .i64 3):=(HBA.out.cell (p:=⟨b2,off + k * 13,none⟩) hbl).trans ((HW.out.bel.cell (p:=⟨b2,off + k * 13,none⟩) hbl).symm.trans f0)
    clear f0 f1 f2 f3 f4 f5 f6 f7 f8 f9 f10 f11 f12
    go_wp2_with (go_at_call 7;refine (HAW.out _ HBA.out).mono ?_;rintro e wa ⟨rfl,hba⟩;have HBE:=hI (qad HBA.out hba);clear hba)
    go_ret
    exact ⟨rfl,HBE.out⟩
   ·have HS:=hI (HS13.out w6 h' hlat')
    have HLT:=hI hlat'
    clear hlat' HS13 f0 f1 f2 f3 f4 f5 f6 f7 f8 f9 f10 f11 f12
    obtain ⟨p0,p1,p2,p3,p4,p5,p6,p7,p8,p9,p10,p11,p12,p13⟩:=qaf HX6.out
    go_wp2_with fail
    refine HS.out.mono ?_
    rintro e w7 ⟨rfl,hb7⟩
    have HW7:Hid (WpS w w7 q g h' (k + 1) l'):=⟨by rw [HLY.out];exact (hb7.block _ (qaa HX6.out)).trans HX6.out,HLT.out.below hb7,HLV.out.more (by omega),qad HBA.out hb7,by omega,by omega⟩
    clear hb7 p0 p1 p2 p3 p4 p5 p6 p7 p8 p9 p10 p11 p12 p13
    go_wp2
    go_roundw
    case rel=>exact ⟨k + 1,h',l',by go_num,rfl,by omega,HW7⟩
    case measure=>simp [intOf];omega
set_option maxRecDepth 100000 in
theorem lifted (os:Os) (started:os.Started) (H:Type) (enc:TypeId×Value→H) :
 ReturnsInHanded {} Tryz.checked os 4 .any (fun w args=>(Rows.walPlaysSpec.pre enc Tryz.prog Tryz.f4 [] false w args∧laidMetH Tryz.prog qwz w)∧sizedMet enc Tryz.prog Tryz.f4 (OpenSpec.ofChange Rows.walPlaysSpec) false w args)
  (Rows.walPlaysSpec.post enc Tryz.prog Tryz.f4 false true false false):=by
 refine returnsInHanded_of_change_and (C:=Tryz.checked) (X:=fun w _=>laidMetH Tryz.prog qwz w) (fun _ _ _ hh h=>h.of_heap hh) own started (by kernel_rfl) Tryz.func4
  (ChangeSpec.witness_at (enc:=enc) (C:=Tryz.checked) (os:=os) (X:=fun w _=>laidMetH Tryz.prog qwz w) false (qqf os) #[.int .i64 0,.string ⟨#[]⟩,.slice none 0 0] 8 rfl (by kernel_rfl) (by kernel_rfl) (by kernel_rfl) (by kernel_rfl) (by kernel_rfl) (qnr os _)) ?_
 intro W base args ds gs before hval0 hW _ _ hL _
 have hval:∀ (j:Nat) t v,Tryz.f4.params[j]?=some t→args[j]?=some v→Value.okWide Tryz.prog W .any base t v:=hval0
 have hW':=hW
 obtain ⟨p,q,hA0,hV,rfl,_,_⟩:=hW
 have hA:DataW.TrodAll enc Tryz.prog W 0 (fun _=>true) true Tryz.f4.params.toList args.toList ds p:=hA0
 rw [Tryz.params4] at hA hval
 have hg:=qqe hL
 obtain ⟨v0,v1,v2,d0,d1,d2,p0,p1,p2,rfl,rfl,rfl,h0,h1,h2⟩:=trodAll_three hA
 obtain ⟨rfl,rfl⟩:=trodVars_none hV
 obtain ⟨a0,rfl,rfl,rfl,-⟩:=open_int Tryz.underlying3 (hval 0 3 v0 rfl rfl) h0
 obtain ⟨s1,rfl,rfl,rfl,-⟩:=ChangeMaps.open_string Tryz.underlying9 (hval 1 9 v1 rfl rfl) h1
 obtain ⟨A2,c2,m2,rfl,ra2⟩:=open_acts (hval 2 22 v2 rfl rfl) h2
 refine (walk a0 s1 A2 c2 m2 W hg ra2).mono fun e W' ⟨he,hb⟩=>?_
 subst he
 exact ⟨_,rfl,law_post (tb:=4) laidOut (by decide +kernel) rfl hW' rfl rfl rfl rfl Tryz.underlying4 hb⟩
theorem over:Rows.walPlaysRow.holds Tryz.pinned (OpenSpec.ofChange Rows.walPlaysSpec) :=
 OpenClaim.holds_of_wide 4 Tryz.f4 rfl rfl rfl rfl rfl rfl rfl ⟨rfl,rfl,rfl,rfl,rfl⟩ rfl rfl rfl rfl rfl (by kernel_rfl) Tryz.func4 (by kernel_rfl)
  (of_decide_eq_true (by kernel_rfl)) (by unfold Func.isWrapper;first | (rw [if_pos (by decide +kernel)];kernel_rfl) | (rw [if_neg (by decide +kernel)];exact ⟨rfl,rfl⟩))
  (fun os started H enc _=>lifted os started H enc)
theorem noStand : ∀ (f : FuncId) (fn : Func), Tryz.prog.funcNamed "rubato/rubatolaw13.WalPlays" = some f → Tryz.prog.funcs[f]? = some fn → true = Tryz.prog.looks [] ∧ ∀ (j : Nat) t, fn.params[j]? = some t → Tryz.prog.wantsStandIn t = false := fun f fn hf hfn => by
 obtain rfl : f = 4 := Option.some.inj ((show Tryz.prog.funcNamed "rubato/rubatolaw13.WalPlays" = some 4 by kernel_rfl).symm.trans hf) |>.symm
 obtain rfl:fn = Tryz.f4:=(Option.some.inj (Tryz.func4.symm.trans hfn)).symm
 refine ⟨by kernel_rfl,fun j t ht=>?_⟩
 rw [Tryz.params4] at ht
 have hs:t = 22∨t = 3∨t = 9:=by
  rcases j with _ | j
  ·(first | (left;simpa using ht.symm) | (right;left;simpa using ht.symm) | (right;right;simpa using ht.symm))
  rcases j with _ | j
  ·(first | (left;simpa using ht.symm) | (right;left;simpa using ht.symm) | (right;right;simpa using ht.symm))
  rcases j with _ | j
  ·(first | (left;simpa using ht.symm) | (right;left;simpa using ht.symm) | (right;right;simpa using ht.symm))
  simp at ht
 rcases hs with rfl | rfl | rfl
 ·exact (show Tryz.prog.wantsStandIn 22 = false by kernel_rfl)
 ·exact (show Tryz.prog.wantsStandIn 3 = false by kernel_rfl)
 ·exact (show Tryz.prog.wantsStandIn 9 = false by kernel_rfl)
theorem proved:Rows.WalPlaysCardSaid :=
 Claim7.holds_tied_plain_at .later [] [.handle] true Rows.walPlaysCard.stood.harness true over (fun _ h=>by cases h) (by kernel_rfl) (fun _ h=>by cases h) walPlays_row_tie rfl ⟨rfl,rfl⟩ (by kernel_rfl) (by kernel_rfl) noStand (by kernel_rfl)
#print axioms proved
end Go.Proofs.YtjkecckndfcbjaaGreatDoor.walPlays
