/- Texts that the law leans on. -/
import Derived.Deep.RegionHeld3
import Derived.Deep.RegionWith
import Derived.Test.YtjkecckndfcbjaaGreatDoorKRlC
import Derived.Test.YtjkecckndfcbjaaGreatDoorKFewA
import Derived.Test.YtjkecckndfcbjaaGreatDoorKWalA
import Derived.Test.YtjkecckndfcbjaaGreatDoorKDocK
import Derived.BigGuardPart
import Derived.Test.YtjkecckndfcbjaaGreatDoorKLftA
import Derived.Test.YtjkecckndfcbjaaGreatDoorKAnyE
namespace Go.Proofs.YtjkecckndfcbjaaGreatDoor
open Go.RowKit Go.Sort Crc Nb
set_option maxRecDepth 100000
set_option maxHeartbeats 4000000 in
theorem qpd (l:LG) (h g:Nat) (ek o1 o2 o4 o7:Int) (ed tx o3 o5 o8:ByteArray) (o6 o9:Bool) (w:World) (hg:Glob w) (x:LAt w h g l) (hok:l.d.ok) (ho:l.d.ops≤999999990) (hf:l.file=0∨l.file=1) (hep:l.ep≤1000000) :
 Calls Tryz.prog 16 #[.pointer (some ⟨h,0,none⟩),.pointer (some ⟨g,0,none⟩),rlV (rlOf l),.agg #[.int .i64 2,.int .i64 ek,.string ed,.string tx,.int .i64 o1,.int .i64 o2,.string o3,.int .i64 o4,.string o5,.bool o6,.int .i64 o7,.string o8,.bool o9]] w (qse h g (qbt l tx).1 w):=by
 have HGK:=hI (fun (W:World) (hb:But2 g h w W)=>Glob.but2 hg x hb)
 have HS:=hI (fun (W:World) (hb:Below w.heap.size w W)=>qnj l h g tx W (hg.below hb) (x.below hb) hok ho hf hep)
 have HR:=hI (fun (W:World)=>qyr l tx W hok ho hf hep)
 have hlh:=x.lth
 have hlg:=x.ltg
 generalize qbt l tx=X at HS HR ⊢
 obtain ⟨X,cx⟩:=X
 obtain ⟨lx,hlx⟩:∃ y,rlOf X=y:=⟨_,rfl⟩
 obtain ⟨ll,hll⟩:∃ y,rlOf l=y:=⟨_,rfl⟩
 unfold qse
 unfold qex at HR
 unfold LogP at HS
 dsimp only at HS HR ⊢
 rw [hlx,hll] at HR
 rw [hlx,hll]
 clear hlx hll hok ho hf x hg
 obtain ⟨⟨a,b,c,e,hh,k,R,O,M,D⟩,f,p,q,s⟩:=ll
 obtain ⟨⟨a1,b1,c1,e1,h1,k1,R1,O1,M1,D1⟩,fX,pX,qX,sX⟩:=lx
 rw [qch,qch] at HR
 rw [qch,qch]
 go_enter Tryz.func16,Tryz.ntmps16
 go_wp2_with fail
 refine (HS.out _ (qab (qab (bel1 w _) _) _)).mono ?_
 rintro x w1 ⟨he,hx1,hb1⟩
 obtain ⟨v,ops,rfl,hv⟩:=qmk he
 have HV1:=hI hv
 have X1:=hI hx1
 have HX1:Hid (w1.heap[w.heap.size]?=some (.cells #[.string a,.string b,.string c,.string e,.bool hh,.bool k,.int .i64 (R:Int),.int .i64 (O:Int),.int .i64 (M:Int),.bool D,.int .i64 (f:Int),.int .i64 (p:Int),.int .i64 (q:Int),.bool s] 41 (0,0))):=hb1.heapK (qed w _ _ _).1 hlg hlh
 have HY1:Hid (w1.heap[w.heap.size + 2]?=some (.cells #[.string ⟨#[]⟩,.string ⟨#[]⟩,.string ⟨#[]⟩,.string ⟨#[]⟩,.bool false,.bool false,.int .i64 0,.int .i64 0,.int .i64 0,.bool false,.int .i64 0,.int .i64 0,.int .i64 0,.bool false] 41 (0,0))):=hb1.heapK (qed w _ _ _).2 (by omega) (by omega)
 have HB1:=hI ((But2.of (g:=g) (h:=h) (qab (qab (bel1 w _) _) _)).trans hb1)
 have HA1:Hid (w1.heap[w.heap.size + 1]?=some (.cells #[.int .i64 2,.int .i64 ek,.string ed,.string tx,.int .i64 o1,.int .i64 o2,.string o3,.int .i64 o4,.string o5,.bool o6,.int .i64 o7,.string o8,.bool o9] 62 (0,0))):=hb1.heapK (qws w _ _ _) (by omega) (by omega)
 have t3:w1.cell? ⟨w.heap.size + 1,3,none⟩=some (.string tx):=by rw [qad HA1.out];rfl
 clear he hv hx1 hb1 HS
 obtain ⟨p0,p1,p2,p3,p4,p5,p6,p7,p8,p9,p10,p11,p12,p13⟩:=qaf HX1.out
 go_wp2_with fail
 refine (HR.out _).mono ?_
 rintro x w2 ⟨rfl,hb2⟩
 have HX2:Hid (w2.heap[w.heap.size]?=some (.cells #[.string a,.string b,.string c,.string e,.bool hh,.bool k,.int .i64 (R:Int),.int .i64 (O:Int),.int .i64 (M:Int),.bool D,.int .i64 (f:Int),.int .i64 (p:Int),.int .i64 (q:Int),.bool s] 41 (0,0))):=(hb2.block _ (qaa HX1.out)).trans HX1.out
 have HY2:Hid (w2.heap[w.heap.size + 2]?=some (.cells #[.string ⟨#[]⟩,.string ⟨#[]⟩,.string ⟨#[]⟩,.string ⟨#[]⟩,.bool false,.bool false,.int .i64 0,.int .i64 0,.int .i64 0,.bool false,.int .i64 0,.int .i64 0,.int .i64 0,.bool false] 41 (0,0))):=(hb2.block _ (qaa HY1.out)).trans HY1.out
 have X2:=hI (X1.out.below hb2)
 have HV2:=hI (HV1.out.below hb2)
 have HB2:=hI (HB1.out.trans (But2.of (g:=g) (h:=h) hb2))
 clear hb2 HR HX1 HY1 X1 HV1 HB1 p0 p1 p2 p3 p4 p5 p6 p7 p8 p9 p10 p11 p12 p13
 obtain ⟨p0,p1,p2,p3,p4,p5,p6,p7,p8,p9,p10,p11,p12,p13⟩:=qaf HX2.out
 obtain ⟨q0,q1,q2,q3,q4,q5,q6,q7,q8,q9,q10,q11,q12,q13⟩:=qal HX2.out
 go_upto_region 23 with (fail)
 generalize hw5:((((((((((((((w2.setCell ⟨w.heap.size,0,none⟩ (.string a1)).setCell ⟨w.heap.size,1,none⟩ (.string b1)).setCell ⟨w.heap.size,2,none⟩ (.string c1)).setCell ⟨w.heap.size,3,none⟩ (.string e1)).setCell ⟨w.heap.size,4,none⟩ (.bool h1)).setCell ⟨w.heap.size,5,none⟩ (.bool k1)).setCell ⟨w.heap.size,6,none⟩ (.int .i64 (R1:Int))).setCell ⟨w.heap.size,7,none⟩ (.int .i64 (O1:Int))).setCell ⟨w.heap.size,8,none⟩ (.int .i64 (M1:Int))).setCell ⟨w.heap.size,9,none⟩ (.bool D1)).setCell ⟨w.heap.size,10,none⟩ (.int .i64 (fX:Int))).setCell ⟨w.heap.size,11,none⟩ (.int .i64 (pX:Int))).setCell ⟨w.heap.size,12,none⟩ (.int .i64 (qX:Int))).setCell ⟨w.heap.size,13,none⟩ (.bool sX))=w5
 have hbg:g≠w.heap.size:=by omega
 have hbh:h≠w.heap.size:=by omega
 have HBU:Hid (But w.heap.size w2 w5):=by rw [←hw5];exact qjz (But.refl _ _)
 have HX5:Hid (w5.heap[w.heap.size]?=some (.cells #[.string a1,.string b1,.string c1,.string e1,.bool h1,.bool k1,.int .i64 (R1:Int),.int .i64 (O1:Int),.int .i64 (M1:Int),.bool D1,.int .i64 (fX:Int),.int .i64 (pX:Int),.int .i64 (qX:Int),.bool sX] 41 (0,0))):=by rw [←hw5];exact qph HX2.out
 have HY5:Hid (w5.heap[w.heap.size + 2]?=some (.cells #[.string ⟨#[]⟩,.string ⟨#[]⟩,.string ⟨#[]⟩,.string ⟨#[]⟩,.bool false,.bool false,.int .i64 0,.int .i64 0,.int .i64 0,.bool false,.int .i64 0,.int .i64 0,.int .i64 0,.bool false] 41 (0,0))):=HBU.out.heap HY2.out (by omega)
 have X5:=hI (X2.out.but HBU.out hbg hbh)
 have HV5:=hI (HV2.out.but HBU.out (noFltL HX2.out))
 have HB5:Hid (But2 g h w w5):=⟨HBU.out.os.trans HB2.out.os,HBU.out.tape.trans HB2.out.tape,HBU.out.output.trans HB2.out.output,Nat.le_trans HB2.out.size HBU.out.size,fun i hi h1 h2=>(HBU.out.block i (Nat.lt_of_lt_of_le hi HB2.out.size) (Nat.ne_of_lt hi)).trans (HB2.out.block i hi h1 h2)⟩
 have HC:=hI (fun (W:World) (hb:Below w5.heap.size w5 W)=>qgh ops (cx:Int) v W ((HGK.out w5 HB5.out).below hb) (HV5.out.below hb))
 clear hw5 HBU HX2 HY2 X2 HV2 HB2 HGK p0 p1 p2 p3 p4 p5 p6 p7 p8 p9 p10 p11 p12 p13 q0 q1 q2 q3 q4 q5 q6 q7 q8 q9 q10 q11 q12 q13
 obtain ⟨p0,p1,p2,p3,p4,p5,p6,p7,p8,p9,p10,p11,p12,p13⟩:=qaf HX5.out
 obtain ⟨y0,y1,y2,y3,y4,y5,y6,y7,y8,y9,y10,y11,y12,y13⟩:=qaf HY5.out
 obtain ⟨z0,z1,z2,z3,z4,z5,z6,z7,z8,z9,z10,z11,z12,z13⟩:=qal HY5.out
 go_region_with (go_at_call 15;refine (HC.out _ (by first | exact Below.refl _ _ | exact qan (Below.refl _ _) _ | exact Below.drew (Below.refl _ _))).mono ?_;rintro e w6 ⟨rfl,hb6⟩;have HX6:=hI ((hb6.block _ (qaa HX5.out)).trans HX5.out);have HY6:=hI ((hb6.block _ (qaa HY5.out)).trans HY5.out);(have HB6:Hid (Below w5.heap.size w5 w6):=(by first | exact hb6 | exact qac (Below.drew (Below.refl _ _)) hb6 | exact qac (qan (Below.refl _ _) _) hb6));clear hb6;obtain ⟨r0,r1,r2,r3,r4,r5,r6,r7,r8,r9,r10,r11,r12,r13⟩:=qaf HX6.out;obtain ⟨u0,u1,u2,u3,u4,u5,u6,u7,u8,u9,u10,u11,u12,u13⟩:=qaf HY6.out;obtain ⟨v0,v1,v2,v3,v4,v5,v6,v7,v8,v9,v10,v11,v12,v13⟩:=qal HY6.out)
 all_goals go_wp2
 all_goals (refine bodyPost_ret (v:=.tuple #[.pointer (some ⟨h,0,none⟩),.agg #[.string a1,.string b1,.string c1,.string e1,.bool h1,.bool k1,.int .i64 (R1:Int),.int .i64 (O1:Int),.int .i64 (M1:Int),.bool D1,.int .i64 (fX:Int),.int .i64 (pX:Int),.int .i64 (qX:Int),.bool sX],.bool true]) (by simp [results,Tryz.results16,go_sem,u0,u1,u2,u3,u4,u5,u6,u7,u8,u9,u10,u11,u12,u13]) rfl ?_)
 all_goals exact ⟨rfl,lat14 (X5.out.below HB6.out) (by omega) (by omega),qpg (HB5.out.trans (But2.of HB6.out)) (by omega)⟩
end Go.Proofs.YtjkecckndfcbjaaGreatDoor
namespace Go.Proofs.YtjkecckndfcbjaaGreatDoor
open Go.RowKit Go.Sort Crc Nb
set_option maxRecDepth 100000
theorem play_any (l:LG) (x:AC) (h g:Nat) (w:World) (hg:Glob w) (X:LAt w h g l) (hok:l.d.ok) (ho:l.d.ops≤999999990) (hf:l.file=0∨l.file=1) (hsq:l.sq≤1000000) (hep:l.ep≤1000000) (hez:x.e.2.size≤1000000) (hk:x.k=0∨x.k=1∨x.k=2) :
 Calls Tryz.prog 16 #[.pointer (some ⟨h,0,none⟩),.pointer (some ⟨g,0,none⟩),rlV (rlOf l),.agg (qlq x).toArray] w (qse h g (actG l x.k x.e x.tx).1 w):=by
 obtain ⟨k,⟨ek,ed⟩,tx,ok,n,ot,⟨ka,ta,ra⟩,⟨kb,tb,rb⟩⟩:=x
 rcases hk with rfl | rfl | rfl
 ·exact qtu l h g ek ok n ka kb ed tx ot ta tb ra rb w hg X hok ho hf hsq hez
 ·exact qsf l h g ek ok n ka kb ed tx ot ta tb ra rb w hg X hok ho hf
 ·exact qpd l h g ek ok n ka kb ed tx ot ta tb ra rb w hg X hok ho hf hep
end Go.Proofs.YtjkecckndfcbjaaGreatDoor
namespace Go.Proofs.YtjkecckndfcbjaaGreatDoor
open Go.RowKit Go.Sort Crc Nb
set_option maxRecDepth 100000
end Go.Proofs.YtjkecckndfcbjaaGreatDoor
namespace Go.Proofs.YtjkecckndfcbjaaGreatDoor
open Go.RowKit Go.Sort
set_option maxRecDepth 100000
theorem neEv_run (x y:EV) (w:World):(binOp .neq 56 (.agg #[.int .i64 x.1,.string x.2]) (.agg #[.int .i64 y.1,.string y.2])).run Tryz.prog w=.ok (.bool (!decide (x=y))) w:=by
 have hS:Tryz.prog.underlying 56 = some (.struct (Tryz.prog.fieldsOf 56)):=by kernel_rfl
 have hp:Tryz.prog.stoodInHeld 56 = false:=by kernel_rfl
 have u3:=Tryz.underlying3
 have u9:=Tryz.underlying9
 rw [run_neq_struct,show (10000:Nat)=9999 + 1 from rfl,run_equalIn_agg w 9999 56 _ _ hS hp]
 simp only [Program.fieldsOf,Tryz.underlying56]
 go_simp
 obtain ⟨k,d⟩:=x
 obtain ⟨k',d'⟩:=y
 have hdd:(d.toList=d'.toList)↔d=d':=by
  rw [Lib.toList_data,Lib.toList_data]
  obtain ⟨⟨x⟩⟩:=d
  obtain ⟨⟨y⟩⟩:=d'
  simp
 by_cases h1:k=k' <;> by_cases h2:d=d' <;> simp [h1,h2,hdd]
theorem qrv {α:Type} [Inhabited α] {d1 d2:Array α} (hs:d1.size=d2.size) (h:∀ j,j < d1.size→d1[j]! = d2[j]!):d1=d2 :=
 Array.ext hs fun i h1 h2=>by
  have:=h i h1
  rwa [getElem!_pos d1 i h1,getElem!_pos d2 i h2] at this
set_option maxHeartbeats 2000000 in
theorem qpe (A1 A2:Option Addr) (c1 c2:Nat) (d1 d2:Array EV) (B1 B2:Nat) (w:World) (h1:RdK qbm 2 B1 w A1 d1) (h2:RdK qbm 2 B2 w A2 d2) (hm:d2.size≤100000000) :
 Calls Tryz.prog 13 #[.slice A1 d1.size c1,.slice A2 d2.size c2] w fun e w'=>e=.returned (.bool (decide (d1=d2)))∧∃ n,w'=w.drewN n:=by
 by_cases hs:d1.size=d2.size
 ·have hb:((d1.size:Int) != (d2.size:Int))=false:=by simp [hs]
  have HS:=hI hs
  have hge:d1.size≤d2.size:=by omega
  clear hs
  go_enter Tryz.func13,Tryz.ntmps13
  go_wp2
  go_loopw [5] (fun i wr=>∃ k n:Nat,k≤d1.size∧i=.int .i64 k∧wr=w.drewN n∧∀ j,j < k→d1[j]! = d2[j]!) (fun i _=>d1.size - (intOf i).toNat)
  case atStart=>exact ⟨0,0,Nat.zero_le _,rfl,rfl,fun j hj=>absurd hj (by omega)⟩
  case round =>
   obtain ⟨k,n,hk,rfl,rfl,hj⟩:=hrel
   have HJ:=hI hj;clear hj
   by_cases hlt:k < d1.size
   ·obtain ⟨b1,o1,rfl,_,f1⟩:=h1.at_ hlt
    obtain ⟨b2,o2,rfl,_,f2⟩:=h2.at_ (i:=k) (by omega)
    have e10:=f1 0 (by omega)
    have e11:=f1 1 (by omega)
    have e20:=f2 0 (by omega)
    have e21:=f2 1 (by omega)
    have hnx:=neEv_run d1[k]! d2[k]!
    generalize hx:d1[k]! = x at e10 e11 hnx
    generalize hy:d2[k]! = y at e20 e21 hnx
    have HXX:=hI hx;clear hx
    have HYY:=hI hy;clear hy
    simp only [Nat.add_zero,qbm,List.getElem!_cons_zero,List.getElem!_cons_succ] at e10 e11 e20 e21
    clear f1 f2
    have kz:(k:Int) < (d1.size:Int):=by omega
    have kz2:(k:Int) < (d2.size:Int):=by omega
    by_cases hxy:x=y
    ·have hd:decide (x=y)=true:=by simp [hxy]
     have HXY:=hI hxy;clear hxy
     rw [hd] at hnx
     clear hd
     go_wp2
     go_quiet (fail)
     go_wp2
     go_roundw
     case rel=>exact ⟨k + 1,_,by omega,by go_num,rfl,fun j hj=>by
      rcases Nat.lt_or_ge j k with h | h
      ·exact HJ.out j h
      ·obtain rfl:j=k:=by omega
       rw [HXX.out,HYY.out];exact HXY.out⟩
     case measure=>simp [intOf];omega
    ·have hd:decide (x=y)=false:=by simp [hxy]
     have HXY:=hI hxy;clear hxy
     rw [hd] at hnx
     clear hd
     go_wp2
     go_quiet (fail)
     go_wp2
     go_ret
     exact ⟨qah (by symm;rw [decide_eq_false_iff_not];rintro rfl;exact HXY.out (by rw [←HXX.out,←HYY.out])),_,World.drewN_drewN _ _ _⟩
   ·have hlt':decide ((k:Int) < (d1.size:Int))=false:=by simp;omega
    go_wp2
    go_ret
    exact ⟨qah (by symm;rw [decide_eq_true_iff];exact qrv HS.out fun j hj=>HJ.out j (by omega)),n,rfl⟩
 ·have hb:((d1.size:Int) != (d2.size:Int))=true:=by simp;omega
  have HS:=hI hs
  clear hs
  go_enter Tryz.func13,Tryz.ntmps13
  go_wp2
  go_ret
  exact ⟨qah (by symm;rw [decide_eq_false_iff_not];rintro rfl;exact HS.out rfl),0,rfl⟩
end Go.Proofs.YtjkecckndfcbjaaGreatDoor
namespace Go.Proofs.YtjkecckndfcbjaaGreatDoor
open Go.RowKit
set_option maxRecDepth 100000
def qyo (safe loose:ByteArray) (half:Bool) (c:CH):ByteArray:=if half && c.reset then ⟨#[]⟩ else safe ++ loose.extract 0 (min c.keep.toNat loose.size) ++ c.trash.extract 0 (min c.trash.size (loose.size - min c.keep.toNat loose.size))
theorem ext_split (s:ByteArray) (m k:Nat) (h:m + k≤s.size):s.extract 0 (m + k)=s.extract 0 m ++ (s.extract m s.size).extract 0 k:=qlw (by
 have h':m + k≤s.data.size:=h
 have e:s.size=s.data.size:=rfl
 rw [ByteArray.data_append,ByteArray.data_extract,ByteArray.data_extract,ByteArray.data_extract,ByteArray.data_extract,Array.extract_extract,Nat.add_zero,e,Nat.min_eq_left h',Array.extract_append_extract]
 congr 1
 omega)
theorem rleft_eq {f:FL} (h:f.safe≤f.s.size) (c:CH):qyo (f.s.extract 0 f.safe) (f.s.extract f.safe f.s.size) f.half c=(qbs f c).s:=by
 have hz:(f.s.extract f.safe f.s.size).size=f.s.size - f.safe:=by simp
 unfold qyo qbs
 split
 ·rfl
 ·rw [hz]
  dsimp only
  rw [ext_split f.s f.safe _ (by omega)]
set_option maxHeartbeats 4000000 in
theorem rLeft_any (safe loose:ByteArray) (half:Bool) (c:CH) (w:World) (h1:safe.size≤1000000) (h2:loose.size≤1000000) (ht:c.trash.size≤2000000) :
 Calls Tryz.prog 54 #[.string safe,.string loose,.bool half,chV c] w fun e w'=>e=.returned (.string (qyo safe loose half c))∧Below w.heap.size w w':=by
 obtain ⟨keep,trash,reset⟩:=c
 dsimp only at ht
 by_cases hb:(half && reset)=true
 ·obtain ⟨rfl,rfl⟩:half=true∧reset=true:=by simpa using hb
  rw [show qyo safe loose true ⟨keep,trash,true⟩=⟨#[]⟩ from rfl]
  unfold chV
  dsimp only
  clear hb
  go_enter Tryz.func54,Tryz.ntmps54
  go_wp2
  go_ret
  exact ⟨rfl,bel1 w _⟩
 have hb':(half && reset)=false:=by simpa using hb
 obtain ⟨L,hL⟩:∃ L,loose.size=L:=⟨_,rfl⟩
 obtain ⟨k,hk⟩:∃ k,min keep.toNat L=k:=⟨_,rfl⟩
 obtain ⟨j,hj⟩:∃ j,min trash.size (L - k)=j:=⟨_,rfl⟩
 have hq:qyo safe loose half ⟨keep,trash,reset⟩=safe ++ loose.extract 0 k ++ trash.extract 0 j:=by
  unfold qyo
  rw [if_neg (by dsimp only;rw [hb'];simp)]
  dsimp only
  rw [hL,hk,hj]
 rw [hq]
 have hz1:(safe ++ loose.extract 0 k).size≤2000000:=by rw [qcz];simp;omega
 unfold chV
 dsimp only
 have hcs:half=false∨(half=true∧reset=false):=by
  cases half
  ·exact Or.inl rfl
  ·exact Or.inr ⟨rfl,by simpa using hb'⟩
 have hks:(keep < 0∧k=0)∨(¬ keep < 0∧(L:Int) < keep∧k=L)∨(¬ keep < 0∧¬ (L:Int) < keep∧keep=(k:Int)):=by omega
 have hts:((L:Int) - (k:Int) < (trash.size:Int)∧(L:Int) - (k:Int)=(j:Int))∨(¬ (L:Int) - (k:Int) < (trash.size:Int)∧j=trash.size):=by omega
 have hkL:k≤L:=by omega
 have hjt:j≤trash.size:=by omega
 clear hq hb hb' hk hj
 rcases hcs with rfl | ⟨rfl,rfl⟩ <;> rcases hks with ⟨a1,rfl⟩ | ⟨a1,a2,rfl⟩ | ⟨a1,a2,rfl⟩ <;> rcases hts with ⟨b1,b2⟩ | ⟨b1,rfl⟩
 all_goals
  go_enter Tryz.func54,Tryz.ntmps54
  go_wp2
  go_ret
  refine ⟨?_,bel1 w _⟩
  first | rfl | (rw [qtk];done) | (have hjL:j=L:=(by omega);subst hjL;refine congrArg Ending.returned (congrArg Value.string (qlw ?_));simp)
end Go.Proofs.YtjkecckndfcbjaaGreatDoor
namespace Go.Proofs.YtjkecckndfcbjaaGreatDoor
open Go.RowKit
set_option maxRecDepth 100000
theorem qgl {W:World} {g:Nat} {t:TypeId} {x0 x1 x2:Value} (h:W.heap[g]?=some (.cells #[x0,x1,x2] t (0,0))):W.cell? ⟨g,0,none⟩=some x0∧W.cell? ⟨g,1,none⟩=some x1∧W.cell? ⟨g,2,none⟩=some x2:=by
 refine ⟨?_,?_,?_⟩ <;> (rw [qad h];rfl)
end Go.Proofs.YtjkecckndfcbjaaGreatDoor
