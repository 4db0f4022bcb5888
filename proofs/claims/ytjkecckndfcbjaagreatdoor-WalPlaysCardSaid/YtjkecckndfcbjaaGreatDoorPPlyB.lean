/- Texts that the law leans on. -/
import Derived.Deep.RegionHeld3
import Derived.Deep.RegionWith
import Derived.Test.YtjkecckndfcbjaaGreatDoorPRlP
import Derived.Test.YtjkecckndfcbjaaGreatDoorPFewA
import Derived.Test.YtjkecckndfcbjaaGreatDoorPLftA
import Derived.Test.YtjkecckndfcbjaaGreatDoorPErrA
import Derived.Test.YtjkecckndfcbjaaGreatDoorPAnyE
import Derived.Test.YtjkecckndfcbjaaGreatDoorPWalA
import Derived.Test.YtjkecckndfcbjaaGreatDoorPDocK
namespace Go.Proofs.YtjkecckndfcbjaaGreatDoor
open Go.RowKit Go.Sort Crc Nb
set_option maxRecDepth 100000
theorem qvd (w:World) (o o2 o3:Obj):(((w.alloc o).alloc o2).alloc o3).heap[w.heap.size + 1]?=some o2:=(Below.heap_alloc _ _ _ (by simp)).trans (qbi w o o2).2
set_option maxHeartbeats 4000000 in
theorem qst (l:LG) (h g:Nat) (ek o1 o2 o4 o7:Int) (ed tx o3 o5 o8:ByteArray) (o6 o9:Bool) (w:World) (hg:Glob w) (x:LAt w h g l) (hok:l.d.ok) (ho:l.d.ops≤999999990) (hf:l.file=0∨l.file=1) (hsq:l.sq≤1000000) (hez:ed.size≤1000000) :
 Calls Tryz.prog 16 #[.pointer (some ⟨h,0,none⟩),.pointer (some ⟨g,0,none⟩),rlV (rlOf l),.agg #[.int .i64 0,.int .i64 ek,.string ed,.string tx,.int .i64 o1,.int .i64 o2,.string o3,.int .i64 o4,.string o5,.bool o6,.int .i64 o7,.string o8,.bool o9]] w (qog h g (addG l (ek,ed)).1 w):=by
 have HGK:=hI (fun (W:World) (hb:But2 g h w W)=>Glob.but2 hg x hb)
 have HS:=hI (fun (W:World) (hb:Below w.heap.size w W)=>qot l h g (ek,ed) W (hg.below hb) (x.below hb) hok ho hf hsq hez)
 have HR:=hI (fun (W:World)=>rAddL_any l ek ed W hok ho hf hsq hez)
 have hlh:=x.lth
 have hlg:=x.ltg
 generalize addG l (ek,ed)=X at HS HR ⊢
 obtain ⟨X,cx⟩:=X
 obtain ⟨lx,hlx⟩:∃ y,rlOf X=y:=⟨_,rfl⟩
 obtain ⟨ll,hll⟩:∃ y,rlOf l=y:=⟨_,rfl⟩
 unfold qog
 unfold qep at HR
 unfold LogP at HS
 dsimp only at HS HR ⊢
 rw [hlx,hll] at HR
 rw [hlx,hll]
 clear hlx hll hok ho hf x hg
 obtain ⟨⟨a,b,c,e,hh,k,R,O,M,D⟩,f,p,q,s⟩:=ll
 obtain ⟨⟨a1,b1,c1,e1,h1,k1,R1,O1,M1,D1⟩,fX,pX,qX,sX⟩:=lx
 rw [qce,qce] at HR
 rw [qce,qce]
 go_enter Tryz.func16,Tryz.ntmps16
 go_wp2_with fail
 refine (HS.out _ (qab (qab (bel1 w _) _) _)).mono ?_
 rintro x w1 ⟨he,hx1,hb1⟩
 obtain ⟨v,ops,rfl,hv⟩:=qlh he
 have HV1:=hI hv
 have X1:=hI hx1
 have HX1:Hid (w1.heap[w.heap.size]?=some (.cells #[.string a,.string b,.string c,.string e,.bool hh,.bool k,.int .i64 (R:Int),.int .i64 (O:Int),.int .i64 (M:Int),.bool D,.int .i64 (f:Int),.int .i64 (p:Int),.int .i64 (q:Int),.bool s] 41 (0,0))):=hb1.heapK (qde w _ _ _).1 hlg hlh
 have HY1:Hid (w1.heap[w.heap.size + 2]?=some (.cells #[.string ⟨#[]⟩,.string ⟨#[]⟩,.string ⟨#[]⟩,.string ⟨#[]⟩,.bool false,.bool false,.int .i64 0,.int .i64 0,.int .i64 0,.bool false,.int .i64 0,.int .i64 0,.int .i64 0,.bool false] 41 (0,0))):=hb1.heapK (qde w _ _ _).2 (by omega) (by omega)
 have HB1:=hI ((But2.of (g:=g) (h:=h) (qab (qab (bel1 w _) _) _)).trans hb1)
 have HA1:Hid (w1.heap[w.heap.size + 1]?=some (.cells #[.int .i64 0,.int .i64 ek,.string ed,.string tx,.int .i64 o1,.int .i64 o2,.string o3,.int .i64 o4,.string o5,.bool o6,.int .i64 o7,.string o8,.bool o9] 62 (0,0))):=hb1.heapK (qvd w _ _ _) (by omega) (by omega)
 have t1:w1.cell? ⟨w.heap.size + 1,1,none⟩=some (.int .i64 ek):=by rw [qac HA1.out];rfl
 have t2:w1.cell? ⟨w.heap.size + 1,2,none⟩=some (.string ed):=by rw [qac HA1.out];rfl
 clear he hv hx1 hb1 HS
 obtain ⟨p0,p1,p2,p3,p4,p5,p6,p7,p8,p9,p10,p11,p12,p13⟩:=qaf HX1.out
 go_wp2_with fail
 refine (HR.out _).mono ?_
 rintro x w2 ⟨rfl,hb2⟩
 have HX2:Hid (w2.heap[w.heap.size]?=some (.cells #[.string a,.string b,.string c,.string e,.bool hh,.bool k,.int .i64 (R:Int),.int .i64 (O:Int),.int .i64 (M:Int),.bool D,.int .i64 (f:Int),.int .i64 (p:Int),.int .i64 (q:Int),.bool s] 41 (0,0))):=(hb2.block _ (qaa HX1.out)).trans HX1.out
 have HY2:Hid (w2.heap[w.heap.size + 2]?=some (.cells #[.string ⟨#[]⟩,.string ⟨#[]⟩,.string ⟨#[]⟩,.string ⟨#[]⟩,.bool false,.bool false,.int .i64 0,.int .i64 0,.int .i64 0,.bool false,.int .i64 0,.int .i64 0,.int .i64 0,.bool false] 41 (0,0))):=(hb2.block _ (qaa HY1.out)).trans HY1.out
 have X2:=hI (X1.out.below hb2)
 have HV2:=hI (HV1.out.below hb2)
 have HB2:=hI (HB1.out.trans (But2.of (g:=g) (h:=h) hb2))
 clear hb2 HR HX1 HY1 X1 HV1 HB1 p0 p1 p2 p3 p4 p5 p6 p7 p8 p9 p10 p11 p12 p13
 obtain ⟨p0,p1,p2,p3,p4,p5,p6,p7,p8,p9,p10,p11,p12,p13⟩:=qaf HX2.out
 obtain ⟨q0,q1,q2,q3,q4,q5,q6,q7,q8,q9,q10,q11,q12,q13⟩:=qaj HX2.out
 go_upto_region 23 with (fail)
 generalize hw5:((((((((((((((w2.setCell ⟨w.heap.size,0,none⟩ (.string a1)).setCell ⟨w.heap.size,1,none⟩ (.string b1)).setCell ⟨w.heap.size,2,none⟩ (.string c1)).setCell ⟨w.heap.size,3,none⟩ (.string e1)).setCell ⟨w.heap.size,4,none⟩ (.bool h1)).setCell ⟨w.heap.size,5,none⟩ (.bool k1)).setCell ⟨w.heap.size,6,none⟩ (.int .i64 (R1:Int))).setCell ⟨w.heap.size,7,none⟩ (.int .i64 (O1:Int))).setCell ⟨w.heap.size,8,none⟩ (.int .i64 (M1:Int))).setCell ⟨w.heap.size,9,none⟩ (.bool D1)).setCell ⟨w.heap.size,10,none⟩ (.int .i64 (fX:Int))).setCell ⟨w.heap.size,11,none⟩ (.int .i64 (pX:Int))).setCell ⟨w.heap.size,12,none⟩ (.int .i64 (qX:Int))).setCell ⟨w.heap.size,13,none⟩ (.bool sX))=w5
 have hbg:g≠w.heap.size:=by omega
 have hbh:h≠w.heap.size:=by omega
 have HBU:Hid (But w.heap.size w2 w5):=by rw [←hw5];exact qid (But.refl _ _)
 have HX5:Hid (w5.heap[w.heap.size]?=some (.cells #[.string a1,.string b1,.string c1,.string e1,.bool h1,.bool k1,.int .i64 (R1:Int),.int .i64 (O1:Int),.int .i64 (M1:Int),.bool D1,.int .i64 (fX:Int),.int .i64 (pX:Int),.int .i64 (qX:Int),.bool sX] 41 (0,0))):=by rw [←hw5];exact qls HX2.out
 have HY5:Hid (w5.heap[w.heap.size + 2]?=some (.cells #[.string ⟨#[]⟩,.string ⟨#[]⟩,.string ⟨#[]⟩,.string ⟨#[]⟩,.bool false,.bool false,.int .i64 0,.int .i64 0,.int .i64 0,.bool false,.int .i64 0,.int .i64 0,.int .i64 0,.bool false] 41 (0,0))):=HBU.out.heap HY2.out (by omega)
 have X5:=hI (X2.out.but HBU.out hbg hbh)
 have HV5:=hI (HV2.out.but HBU.out (qvm HX2.out))
 have HB5:Hid (But2 g h w w5):=⟨HBU.out.os.trans HB2.out.os,HBU.out.tape.trans HB2.out.tape,HBU.out.output.trans HB2.out.output,Nat.le_trans HB2.out.size HBU.out.size,fun i hi h1 h2=>(HBU.out.block i (Nat.lt_of_lt_of_le hi HB2.out.size) (Nat.ne_of_lt hi)).trans (HB2.out.block i hi h1 h2)⟩
 have HC:=hI (fun (W:World) (hb:Below w5.heap.size w5 W)=>qbt ops (cx:Int) v W ((HGK.out w5 HB5.out).below hb) (HV5.out.below hb))
 clear hw5 HBU HX2 HY2 X2 HV2 HB2 HGK p0 p1 p2 p3 p4 p5 p6 p7 p8 p9 p10 p11 p12 p13 q0 q1 q2 q3 q4 q5 q6 q7 q8 q9 q10 q11 q12 q13
 obtain ⟨p0,p1,p2,p3,p4,p5,p6,p7,p8,p9,p10,p11,p12,p13⟩:=qaf HX5.out
 obtain ⟨y0,y1,y2,y3,y4,y5,y6,y7,y8,y9,y10,y11,y12,y13⟩:=qaf HY5.out
 obtain ⟨z0,z1,z2,z3,z4,z5,z6,z7,z8,z9,z10,z11,z12,z13⟩:=qaj HY5.out
 go_region_with (go_at_call 15;refine (HC.out _ (by first | exact Below.refl _ _ | exact qao (Below.refl _ _) _ | exact Below.drew (Below.refl _ _))).mono ?_;rintro e w6 ⟨rfl,hb6⟩;have HX6:=hI ((hb6.block _ (qaa HX5.out)).trans HX5.out);have HY6:=hI ((hb6.block _ (qaa HY5.out)).trans HY5.out);(have HB6:Hid (Below w5.heap.size w5 w6):=(by first | exact hb6 | exact qad (Below.drew (Below.refl _ _)) hb6 | exact qad (qao (Below.refl _ _) _) hb6));clear hb6;obtain ⟨r0,r1,r2,r3,r4,r5,r6,r7,r8,r9,r10,r11,r12,r13⟩:=qaf HX6.out;obtain ⟨u0,u1,u2,u3,u4,u5,u6,u7,u8,u9,u10,u11,u12,u13⟩:=qaf HY6.out;obtain ⟨v0,v1,v2,v3,v4,v5,v6,v7,v8,v9,v10,v11,v12,v13⟩:=qaj HY6.out)
 all_goals go_wp2
 all_goals (refine bodyPost_ret (v:=.tuple #[.pointer (some ⟨h,0,none⟩),.agg #[.string a1,.string b1,.string c1,.string e1,.bool h1,.bool k1,.int .i64 (R1:Int),.int .i64 (O1:Int),.int .i64 (M1:Int),.bool D1,.int .i64 (fX:Int),.int .i64 (pX:Int),.int .i64 (qX:Int),.bool sX],.bool true]) (by simp [results,Tryz.results16,go_sem,u0,u1,u2,u3,u4,u5,u6,u7,u8,u9,u10,u11,u12,u13]) rfl ?_)
 all_goals exact ⟨rfl,lat14 (X5.out.below HB6.out) (by omega) (by omega),qlg (HB5.out.trans (But2.of HB6.out)) (by omega)⟩
end Go.Proofs.YtjkecckndfcbjaaGreatDoor
namespace Go.Proofs.YtjkecckndfcbjaaGreatDoor
open Go.RowKit Go.Sort Crc Nb
set_option maxRecDepth 100000
set_option maxHeartbeats 4000000 in
theorem qob (l:LG) (h g:Nat) (ek o1 o2 o4 o7:Int) (ed tx o3 o5 o8:ByteArray) (o6 o9:Bool) (w:World) (hg:Glob w) (x:LAt w h g l) (hok:l.d.ok) (ho:l.d.ops≤999999990) (hf:l.file=0∨l.file=1) (hep:l.ep≤1000000) :
 Calls Tryz.prog 16 #[.pointer (some ⟨h,0,none⟩),.pointer (some ⟨g,0,none⟩),rlV (rlOf l),.agg #[.int .i64 2,.int .i64 ek,.string ed,.string tx,.int .i64 o1,.int .i64 o2,.string o3,.int .i64 o4,.string o5,.bool o6,.int .i64 o7,.string o8,.bool o9]] w (qog h g (qdt l tx).1 w):=by
 have HGK:=hI (fun (W:World) (hb:But2 g h w W)=>Glob.but2 hg x hb)
 have HS:=hI (fun (W:World) (hb:Below w.heap.size w W)=>qmr l h g tx W (hg.below hb) (x.below hb) hok ho hf hep)
 have HR:=hI (fun (W:World)=>qxg l tx W hok ho hf hep)
 have hlh:=x.lth
 have hlg:=x.ltg
 generalize qdt l tx=X at HS HR ⊢
 obtain ⟨X,cx⟩:=X
 obtain ⟨lx,hlx⟩:∃ y,rlOf X=y:=⟨_,rfl⟩
 obtain ⟨ll,hll⟩:∃ y,rlOf l=y:=⟨_,rfl⟩
 unfold qog
 unfold qep at HR
 unfold LogP at HS
 dsimp only at HS HR ⊢
 rw [hlx,hll] at HR
 rw [hlx,hll]
 clear hlx hll hok ho hf x hg
 obtain ⟨⟨a,b,c,e,hh,k,R,O,M,D⟩,f,p,q,s⟩:=ll
 obtain ⟨⟨a1,b1,c1,e1,h1,k1,R1,O1,M1,D1⟩,fX,pX,qX,sX⟩:=lx
 rw [qce,qce] at HR
 rw [qce,qce]
 go_enter Tryz.func16,Tryz.ntmps16
 go_wp2_with fail
 refine (HS.out _ (qab (qab (bel1 w _) _) _)).mono ?_
 rintro x w1 ⟨he,hx1,hb1⟩
 obtain ⟨v,ops,rfl,hv⟩:=qlh he
 have HV1:=hI hv
 have X1:=hI hx1
 have HX1:Hid (w1.heap[w.heap.size]?=some (.cells #[.string a,.string b,.string c,.string e,.bool hh,.bool k,.int .i64 (R:Int),.int .i64 (O:Int),.int .i64 (M:Int),.bool D,.int .i64 (f:Int),.int .i64 (p:Int),.int .i64 (q:Int),.bool s] 41 (0,0))):=hb1.heapK (qde w _ _ _).1 hlg hlh
 have HY1:Hid (w1.heap[w.heap.size + 2]?=some (.cells #[.string ⟨#[]⟩,.string ⟨#[]⟩,.string ⟨#[]⟩,.string ⟨#[]⟩,.bool false,.bool false,.int .i64 0,.int .i64 0,.int .i64 0,.bool false,.int .i64 0,.int .i64 0,.int .i64 0,.bool false] 41 (0,0))):=hb1.heapK (qde w _ _ _).2 (by omega) (by omega)
 have HB1:=hI ((But2.of (g:=g) (h:=h) (qab (qab (bel1 w _) _) _)).trans hb1)
 have HA1:Hid (w1.heap[w.heap.size + 1]?=some (.cells #[.int .i64 2,.int .i64 ek,.string ed,.string tx,.int .i64 o1,.int .i64 o2,.string o3,.int .i64 o4,.string o5,.bool o6,.int .i64 o7,.string o8,.bool o9] 62 (0,0))):=hb1.heapK (qvd w _ _ _) (by omega) (by omega)
 have t3:w1.cell? ⟨w.heap.size + 1,3,none⟩=some (.string tx):=by rw [qac HA1.out];rfl
 clear he hv hx1 hb1 HS
 obtain ⟨p0,p1,p2,p3,p4,p5,p6,p7,p8,p9,p10,p11,p12,p13⟩:=qaf HX1.out
 go_wp2_with fail
 refine (HR.out _).mono ?_
 rintro x w2 ⟨rfl,hb2⟩
 have HX2:Hid (w2.heap[w.heap.size]?=some (.cells #[.string a,.string b,.string c,.string e,.bool hh,.bool k,.int .i64 (R:Int),.int .i64 (O:Int),.int .i64 (M:Int),.bool D,.int .i64 (f:Int),.int .i64 (p:Int),.int .i64 (q:Int),.bool s] 41 (0,0))):=(hb2.block _ (qaa HX1.out)).trans HX1.out
 have HY2:Hid (w2.heap[w.heap.size + 2]?=some (.cells #[.string ⟨#[]⟩,.string ⟨#[]⟩,.string ⟨#[]⟩,.string ⟨#[]⟩,.bool false,.bool false,.int .i64 0,.int .i64 0,.int .i64 0,.bool false,.int .i64 0,.int .i64 0,.int .i64 0,.bool false] 41 (0,0))):=(hb2.block _ (qaa HY1.out)).trans HY1.out
 have X2:=hI (X1.out.below hb2)
 have HV2:=hI (HV1.out.below hb2)
 have HB2:=hI (HB1.out.trans (But2.of (g:=g) (h:=h) hb2))
 clear hb2 HR HX1 HY1 X1 HV1 HB1 p0 p1 p2 p3 p4 p5 p6 p7 p8 p9 p10 p11 p12 p13
 obtain ⟨p0,p1,p2,p3,p4,p5,p6,p7,p8,p9,p10,p11,p12,p13⟩:=qaf HX2.out
 obtain ⟨q0,q1,q2,q3,q4,q5,q6,q7,q8,q9,q10,q11,q12,q13⟩:=qaj HX2.out
 go_upto_region 23 with (fail)
 generalize hw5:((((((((((((((w2.setCell ⟨w.heap.size,0,none⟩ (.string a1)).setCell ⟨w.heap.size,1,none⟩ (.string b1)).setCell ⟨w.heap.size,2,none⟩ (.string c1)).setCell ⟨w.heap.size,3,none⟩ (.string e1)).setCell ⟨w.heap.size,4,none⟩ (.bool h1)).setCell ⟨w.heap.size,5,none⟩ (.bool k1)).setCell ⟨w.heap.size,6,none⟩ (.int .i64 (R1:Int))).setCell ⟨w.heap.size,7,none⟩ (.int .i64 (O1:Int))).setCell ⟨w.heap.size,8,none⟩ (.int .i64 (M1:Int))).setCell ⟨w.heap.size,9,none⟩ (.bool D1)).setCell ⟨w.heap.size,10,none⟩ (.int .i64 (fX:Int))).setCell ⟨w.heap.size,11,none⟩ (.int .i64 (pX:Int))).setCell ⟨w.heap.size,12,none⟩ (.int .i64 (qX:Int))).setCell ⟨w.heap.size,13,none⟩ (.bool sX))=w5
 have hbg:g≠w.heap.size:=by omega
 have hbh:h≠w.heap.size:=by omega
 have HBU:Hid (But w.heap.size w2 w5):=by rw [←hw5];exact qid (But.refl _ _)
 have HX5:Hid (w5.heap[w.heap.size]?=some (.cells #[.string a1,.string b1,.string c1,.string e1,.bool h1,.bool k1,.int .i64 (R1:Int),.int .i64 (O1:Int),.int .i64 (M1:Int),.bool D1,.int .i64 (fX:Int),.int .i64 (pX:Int),.int .i64 (qX:Int),.bool sX] 41 (0,0))):=by rw [←hw5];exact qls HX2.out
 have HY5:Hid (w5.heap[w.heap.size + 2]?=some (.cells #[.string ⟨#[]⟩,.string ⟨#[]⟩,.string ⟨#[]⟩,.string ⟨#[]⟩,.bool false,.bool false,.int .i64 0,.int .i64 0,.int .i64 0,.bool false,.int .i64 0,.int .i64 0,.int .i64 0,.bool false] 41 (0,0))):=HBU.out.heap HY2.out (by omega)
 have X5:=hI (X2.out.but HBU.out hbg hbh)
 have HV5:=hI (HV2.out.but HBU.out (qvm HX2.out))
 have HB5:Hid (But2 g h w w5):=⟨HBU.out.os.trans HB2.out.os,HBU.out.tape.trans HB2.out.tape,HBU.out.output.trans HB2.out.output,Nat.le_trans HB2.out.size HBU.out.size,fun i hi h1 h2=>(HBU.out.block i (Nat.lt_of_lt_of_le hi HB2.out.size) (Nat.ne_of_lt hi)).trans (HB2.out.block i hi h1 h2)⟩
 have HC:=hI (fun (W:World) (hb:Below w5.heap.size w5 W)=>qbt ops (cx:Int) v W ((HGK.out w5 HB5.out).below hb) (HV5.out.below hb))
 clear hw5 HBU HX2 HY2 X2 HV2 HB2 HGK p0 p1 p2 p3 p4 p5 p6 p7 p8 p9 p10 p11 p12 p13 q0 q1 q2 q3 q4 q5 q6 q7 q8 q9 q10 q11 q12 q13
 obtain ⟨p0,p1,p2,p3,p4,p5,p6,p7,p8,p9,p10,p11,p12,p13⟩:=qaf HX5.out
 obtain ⟨y0,y1,y2,y3,y4,y5,y6,y7,y8,y9,y10,y11,y12,y13⟩:=qaf HY5.out
 obtain ⟨z0,z1,z2,z3,z4,z5,z6,z7,z8,z9,z10,z11,z12,z13⟩:=qaj HY5.out
 go_region_with (go_at_call 15;refine (HC.out _ (by first | exact Below.refl _ _ | exact qao (Below.refl _ _) _ | exact Below.drew (Below.refl _ _))).mono ?_;rintro e w6 ⟨rfl,hb6⟩;have HX6:=hI ((hb6.block _ (qaa HX5.out)).trans HX5.out);have HY6:=hI ((hb6.block _ (qaa HY5.out)).trans HY5.out);(have HB6:Hid (Below w5.heap.size w5 w6):=(by first | exact hb6 | exact qad (Below.drew (Below.refl _ _)) hb6 | exact qad (qao (Below.refl _ _) _) hb6));clear hb6;obtain ⟨r0,r1,r2,r3,r4,r5,r6,r7,r8,r9,r10,r11,r12,r13⟩:=qaf HX6.out;obtain ⟨u0,u1,u2,u3,u4,u5,u6,u7,u8,u9,u10,u11,u12,u13⟩:=qaf HY6.out;obtain ⟨v0,v1,v2,v3,v4,v5,v6,v7,v8,v9,v10,v11,v12,v13⟩:=qaj HY6.out)
 all_goals go_wp2
 all_goals (refine bodyPost_ret (v:=.tuple #[.pointer (some ⟨h,0,none⟩),.agg #[.string a1,.string b1,.string c1,.string e1,.bool h1,.bool k1,.int .i64 (R1:Int),.int .i64 (O1:Int),.int .i64 (M1:Int),.bool D1,.int .i64 (fX:Int),.int .i64 (pX:Int),.int .i64 (qX:Int),.bool sX],.bool true]) (by simp [results,Tryz.results16,go_sem,u0,u1,u2,u3,u4,u5,u6,u7,u8,u9,u10,u11,u12,u13]) rfl ?_)
 all_goals exact ⟨rfl,lat14 (X5.out.below HB6.out) (by omega) (by omega),qlg (HB5.out.trans (But2.of HB6.out)) (by omega)⟩
end Go.Proofs.YtjkecckndfcbjaaGreatDoor
namespace Go.Proofs.YtjkecckndfcbjaaGreatDoor
open Go.RowKit Go.Sort Crc Nb
set_option maxRecDepth 100000
theorem play_any (l:LG) (x:AC) (h g:Nat) (w:World) (hg:Glob w) (X:LAt w h g l) (hok:l.d.ok) (ho:l.d.ops≤999999990) (hf:l.file=0∨l.file=1) (hsq:l.sq≤1000000) (hep:l.ep≤1000000) (hez:x.e.2.size≤1000000) (hk:x.k=0∨x.k=1∨x.k=2) :
 Calls Tryz.prog 16 #[.pointer (some ⟨h,0,none⟩),.pointer (some ⟨g,0,none⟩),rlV (rlOf l),.agg (qhm x).toArray] w (qog h g (actG l x.k x.e x.tx).1 w):=by
 obtain ⟨k,⟨ek,ed⟩,tx,ok,n,ot,⟨ka,ta,ra⟩,⟨kb,tb,rb⟩⟩:=x
 rcases hk with rfl | rfl | rfl
 ·exact qst l h g ek ok n ka kb ed tx ot ta tb ra rb w hg X hok ho hf hsq hez
 ·exact qrc l h g ek ok n ka kb ed tx ot ta tb ra rb w hg X hok ho hf
 ·exact qob l h g ek ok n ka kb ed tx ot ta tb ra rb w hg X hok ho hf hep
end Go.Proofs.YtjkecckndfcbjaaGreatDoor
namespace Go.Proofs.YtjkecckndfcbjaaGreatDoor
open Go.RowKit
set_option maxRecDepth 100000
def doQ (d:DK) (x:AC):DK×ByteArray×Nat :=
 if x.ok=0 then ((appQ d x.n x.ot).1,⟨#[]⟩,(appQ d x.n x.ot).2) else
 if x.ok=1 then ((qca d x.n).1,⟨#[]⟩,(qca d x.n).2) else
 if x.ok=2 then ((qbf d x.n).1,⟨#[]⟩,(qbf d x.n).2) else
 if x.ok=3 then (d,(qcu d x.n).1,(qcu d x.n).2) else
 if x.ok=4 then ((armQ d x.n).1,⟨#[]⟩,(armQ d x.n).2) else
 if x.ok=5 then ({ d with dead:=true },⟨#[]⟩,0) else
 if x.ok=6 then (qnd d x.a x.b,⟨#[]⟩,0) else (d,⟨#[]⟩,0)
theorem doQ_ok {d:DK} (h:d.ok) (x:AC):(doQ d x).1.ok∧(doQ d x).1.ops≤d.ops + 1∧(doQ d x).1.room=d.room:=by
 unfold doQ
 split
 ·exact qku h _ _
 split
 ·exact qns h _
 split
 ·exact qhq h _
 split
 ·exact ⟨h,Nat.le_succ _,rfl⟩
 split
 ·unfold armQ
  split
  ·exact ⟨h,Nat.le_succ _,rfl⟩
  split
  ·exact ⟨h,Nat.le_succ _,rfl⟩
  ·exact ⟨⟨h.a,h.b,h.fit,h.one,h.room,by dsimp only;omega⟩,Nat.le_succ _,rfl⟩
 split
 ·exact ⟨⟨h.a,h.b,h.fit,h.one,h.room,h.arm⟩,Nat.le_succ _,rfl⟩
 split
 ·exact ⟨bootD_ok h _ _,Nat.le_succ _,rfl⟩
 ·exact ⟨h,Nat.le_succ _,rfl⟩
theorem Glob.butD {w w':World} {g:Nat} {d:DK} (h:Glob w) (x:DAt w g d) (hb:But g w w'):Glob w':=(hb.cell (p:=⟨0,0,none⟩) (qan h) (h.ne_dsk x)).trans h
def DoP (g:Nat) (x:DK×ByteArray×Nat) (w:World) (e:Ending) (w':World):Prop:=e=.returned (.tuple #[.string x.2.1,.int .i64 (x.2.2:Int)])∧DAt w' g x.1∧But g w w'
set_option maxHeartbeats 4000000 in
theorem do_any (d:DK) (g:Nat) (x:AC) (w:World) (hg:Glob w) (h:DAt w g d) (hok:d.ok) (ho:d.ops≤1000000000) (hz:qea x) :
 Calls Tryz.prog 47 #[.pointer (some ⟨g,0,none⟩),.agg (qit x).toArray] w (DoP g (doQ d x) w):=by
 obtain ⟨lk,le,ltx,lok,n,ot,⟨ka,ta,ra⟩,⟨kb,tb,rb⟩⟩:=x
 obtain ⟨z1,z2,z3⟩:=hz
 dsimp only at z1 z2 z3
 have H:=hI h
 have HOK:=hI hok
 have HG:=hI (fun (W:World) (hb:But g w W)=>hg.butD h hb)
 unfold DoP qit
 dsimp only
 by_cases h0:lok=0
 ·subst h0
  have HQ:Hid (doQ d ⟨lk,le,ltx,0,n,ot,⟨ka,ta,ra⟩,⟨kb,tb,rb⟩⟩=((appQ d n ot).1,⟨#[]⟩,(appQ d n ot).2)):=by show _=_;unfold doQ;simp only [reduceIte]
  rw [HQ.out]
  have HC:=hI (fun (W:World) (hb:Below w.heap.size w W)=>qip d g n ot W (h.below hb) hok ho (by omega))
  clear hg h hok ho z1 z2 z3
  go_enter Tryz.func47,Tryz.ntmps47
  go_wp2_with (first
   | (go_at_call 61;refine (HC.out _ (bel1 w _)).mono ?_;rintro e w1 ⟨⟨v,rfl,hv⟩,hd1,hb1⟩;have HV:=hI hv;have HD1:=hI hd1;(have HB1:Hid (But g w w1):=(But.of (bel1 w _)).trans hb1);clear hv hd1 hb1)
   | (go_at_call 15;refine (qbt _ _ v w1 (HG.out _ HB1.out) HV.out).mono ?_;rintro e w2 ⟨rfl,hb2⟩;have HD2:=hI (HD1.out.below hb2);(have HB2:Hid (But g w w2):=HB1.out.trans (But.of hb2));clear hb2))
  go_ret2
  exact ⟨rfl,HD2.out,HB2.out⟩
 by_cases h1:lok=1
 ·subst h1
  have HQ:Hid (doQ d ⟨lk,le,ltx,1,n,ot,⟨ka,ta,ra⟩,⟨kb,tb,rb⟩⟩=((qca d n).1,⟨#[]⟩,(qca d n).2)):=by show _=_;unfold doQ;simp only [reduceIte,Int.reduceEq]
  rw [HQ.out]
  have HC:=hI (fun (W:World) (hb:Below w.heap.size w W)=>qno d g n W (h.below hb) hok ho)
  clear hg h hok ho z1 z2 z3 h0
  go_enter Tryz.func47,Tryz.ntmps47
  go_wp2_with (first
   | (go_at_call 63;refine (HC.out _ (bel1 w _)).mono ?_;rintro e w1 ⟨⟨v,rfl,hv⟩,hd1,hb1⟩;have HV:=hI hv;have HD1:=hI hd1;(have HB1:Hid (But g w w1):=(But.of (bel1 w _)).trans hb1);clear hv hd1 hb1)
   | (go_at_call 15;refine (qbt _ _ v w1 (HG.out _ HB1.out) HV.out).mono ?_;rintro e w2 ⟨rfl,hb2⟩;have HD2:=hI (HD1.out.below hb2);(have HB2:Hid (But g w w2):=HB1.out.trans (But.of hb2));clear hb2))
  go_ret2
  exact ⟨rfl,HD2.out,HB2.out⟩
 by_cases h2:lok=2
 ·subst h2
  have HQ:Hid (doQ d ⟨lk,le,ltx,2,n,ot,⟨ka,ta,ra⟩,⟨kb,tb,rb⟩⟩=((qbf d n).1,⟨#[]⟩,(qbf d n).2)):=by show _=_;unfold doQ;simp only [reduceIte,Int.reduceEq]
  rw [HQ.out]
  have HC:=hI (fun (W:World) (hb:Below w.heap.size w W)=>qpw d g n W (h.below hb) hok ho)
  clear hg h hok ho z1 z2 z3 h0 h1
  go_enter Tryz.func47,Tryz.ntmps47
  go_wp2_with (first
   | (go_at_call 68;refine (HC.out _ (bel1 w _)).mono ?_;rintro e w1 ⟨⟨v,rfl,hv⟩,hd1,hb1⟩;have HV:=hI hv;have HD1:=hI hd1;(have HB1:Hid (But g w w1):=(But.of (bel1 w _)).trans hb1);clear hv hd1 hb1)
   | (go_at_call 15;refine (qbt _ _ v w1 (HG.out _ HB1.out) HV.out).mono ?_;rintro e w2 ⟨rfl,hb2⟩;have HD2:=hI (HD1.out.below hb2);(have HB2:Hid (But g w w2):=HB1.out.trans (But.of hb2));clear hb2))
  go_ret2
  exact ⟨rfl,HD2.out,HB2.out⟩
 by_cases h3:lok=3
 ·subst h3
  have HQ:Hid (doQ d ⟨lk,le,ltx,3,n,ot,⟨ka,ta,ra⟩,⟨kb,tb,rb⟩⟩=(d,(qcu d n).1,(qcu d n).2)):=by show _=_;unfold doQ;simp only [reduceIte,Int.reduceEq]
  rw [HQ.out]
  have HC:=hI (fun (W:World) (hb:Below w.heap.size w W)=>qgm d g n W (h.below hb) hok)
  clear hg h hok ho z1 z2 z3 h0 h1 h2
  go_enter Tryz.func47,Tryz.ntmps47
  go_wp2_with (first
   | (go_at_call 33;refine (HC.out _ (bel1 w _)).mono ?_;rintro e w1 ⟨v,rfl,hv,hb1⟩;have HV:=hI hv;have HD1:=hI ((H.out.below (bel1 w _)).below hb1);(have HB1:Hid (But g w w1):=But.of (qad (bel1 w _) hb1));clear hv hb1)
   | (go_at_call 15;refine (qbt _ _ v w1 (HG.out _ HB1.out) HV.out).mono ?_;rintro e w2 ⟨rfl,hb2⟩;have HD2:=hI (HD1.out.below hb2);(have HB2:Hid (But g w w2):=HB1.out.trans (But.of hb2));clear hb2))
  go_ret2
  exact ⟨rfl,HD2.out,HB2.out⟩
 by_cases h4:lok=4
 ·subst h4
  have HQ:Hid (doQ d ⟨lk,le,ltx,4,n,ot,⟨ka,ta,ra⟩,⟨kb,tb,rb⟩⟩=((armQ d n).1,⟨#[]⟩,(armQ d n).2)):=by show _=_;unfold doQ;simp only [reduceIte,Int.reduceEq]
  rw [HQ.out]
  have HC:=hI (fun (W:World) (hb:Below w.heap.size w W)=>arm_any d g n W (h.below hb) hok)
  clear hg h hok ho z1 z2 z3 h0 h1 h2 h3
  go_enter Tryz.func47,Tryz.ntmps47
  go_wp2_with (first
   | (go_at_call 19;refine (HC.out _ (bel1 w _)).mono ?_;rintro e w1 ⟨⟨v,rfl,hv⟩,hd1,hb1⟩;have HV:=hI hv;have HD1:=hI hd1;(have HB1:Hid (But g w w1):=(But.of (bel1 w _)).trans hb1);clear hv hd1 hb1)
   | (go_at_call 15;refine (qbt _ _ v w1 (HG.out _ HB1.out) HV.out).mono ?_;rintro e w2 ⟨rfl,hb2⟩;have HD2:=hI (HD1.out.below hb2);(have HB2:Hid (But g w w2):=HB1.out.trans (But.of hb2));clear hb2))
  go_ret2
  exact ⟨rfl,HD2.out,HB2.out⟩
 by_cases h5:lok=5
 ·subst h5
  have HQ:Hid (doQ d ⟨lk,le,ltx,5,n,ot,⟨ka,ta,ra⟩,⟨kb,tb,rb⟩⟩=({ d with dead:=true },⟨#[]⟩,0)):=by show _=_;unfold doQ;simp only [reduceIte,Int.reduceEq]
  rw [HQ.out]
  have HC:=hI (fun (W:World) (hb:Below w.heap.size w W)=>off_any d g W (h.below hb) hok)
  clear hg h hok ho z1 z2 z3 h0 h1 h2 h3 h4
  go_enter Tryz.func47,Tryz.ntmps47
  go_wp2_with (first
   | (go_at_call 22;refine (HC.out _ (bel1 w _)).mono ?_;rintro e w1 ⟨⟨v,rfl,hv⟩,hd1,hb1⟩;have HV:=hI hv;have HD1:=hI hd1;(have HB1:Hid (But g w w1):=(But.of (bel1 w _)).trans hb1);clear hv hd1 hb1)
   | (go_at_call 15;refine (qbt _ _ v w1 (HG.out _ HB1.out) HV.out).mono ?_;rintro e w2 ⟨rfl,hb2⟩;have HD2:=hI (HD1.out.below hb2);(have HB2:Hid (But g w w2):=HB1.out.trans (But.of hb2));clear hb2))
  go_ret2
  exact ⟨rfl,HD2.out,HB2.out⟩
 by_cases h6:lok=6
 ·subst h6
  have HQ:Hid (doQ d ⟨lk,le,ltx,6,n,ot,⟨ka,ta,ra⟩,⟨kb,tb,rb⟩⟩=(qnd d ⟨ka,ta,ra⟩ ⟨kb,tb,rb⟩,⟨#[]⟩,0)):=by show _=_;unfold doQ;simp only [reduceIte,Int.reduceEq]
  rw [HQ.out]
  have HC:=hI (fun (W:World) (hb:Below w.heap.size w W)=>boot_any d g ⟨ka,ta,ra⟩ ⟨kb,tb,rb⟩ W (h.below hb) hok (by dsimp only;omega) (by dsimp only;omega))
  unfold chV at HC
  dsimp only at HC
  clear hg h hok ho z1 z2 z3 h0 h1 h2 h3 h4 h5
  go_enter Tryz.func47,Tryz.ntmps47
  go_wp2_with (first
   | (go_at_call 23;refine (HC.out _ (bel1 w _)).mono ?_;rintro e w1 ⟨rfl,hd1,hb1⟩;have HD1:=hI hd1;(have HB1:Hid (But g w w1):=(But.of (bel1 w _)).trans hb1);clear hd1 hb1)
   | (go_at_call 15;refine (qbt [] 0 .nilIface _ (HG.out _ HB1.out) (Or.inl ⟨rfl,rfl,rfl⟩)).mono ?_;rintro e w2 ⟨rfl,hb2⟩;have HD2:=hI (HD1.out.below hb2);(have HB2:Hid (But g w w2):=HB1.out.trans (But.of hb2));clear hb2))
  go_ret2
  exact ⟨rfl,HD2.out,HB2.out⟩
 have HQ:Hid (doQ d ⟨lk,le,ltx,lok,n,ot,⟨ka,ta,ra⟩,⟨kb,tb,rb⟩⟩=(d,⟨#[]⟩,0)):=by show _=_;unfold doQ;rw [if_neg h0,if_neg h1,if_neg h2,if_neg h3,if_neg h4,if_neg h5,if_neg h6]
 rw [HQ.out]
 have HD1:Hid (DAt (w.alloc (.cells #[.int .i64 lok,.int .i64 n,.string ot,.int .i64 ka,.string ta,.bool ra,.int .i64 kb,.string tb,.bool rb] 60)) g d):=h.below (bel1 w _)
 have HB1:Hid (But g w (w.alloc (.cells #[.int .i64 lok,.int .i64 n,.string ot,.int .i64 ka,.string ta,.bool ra,.int .i64 kb,.string tb,.bool rb] 60))):=But.of (bel1 w _)
 have e0:(lok == 0)=false:=by simpa using h0
 have e1:(lok == 1)=false:=by simpa using h1
 have e2:(lok == 2)=false:=by simpa using h2
 have e3:(lok == 3)=false:=by simpa using h3
 have e4:(lok == 4)=false:=by simpa using h4
 have e5:(lok == 5)=false:=by simpa using h5
 have e6:(lok == 6)=false:=by simpa using h6
 clear hg h hok ho z1 z2 z3 h0 h1 h2 h3 h4 h5 h6
 go_enter Tryz.func47,Tryz.ntmps47
 go_wp2_with (go_at_call 15;refine (qbt [] 0 .nilIface _ (HG.out _ HB1.out) (Or.inl ⟨rfl,rfl,rfl⟩)).mono ?_;rintro e w2 ⟨rfl,hb2⟩;have HD2:=hI (HD1.out.below hb2);(have HB2:Hid (But g w w2):=HB1.out.trans (But.of hb2));clear hb2)
 go_ret2
 exact ⟨rfl,HD2.out,HB2.out⟩
end Go.Proofs.YtjkecckndfcbjaaGreatDoor
namespace Go.Proofs.YtjkecckndfcbjaaGreatDoor
open Go.RowKit
set_option maxRecDepth 100000
def qlr (safe loose:ByteArray) (half:Bool) (c:CH):ByteArray:=if half && c.reset then ⟨#[]⟩ else safe ++ loose.extract 0 (min c.keep.toNat loose.size) ++ c.trash.extract 0 (min c.trash.size (loose.size - min c.keep.toNat loose.size))
def RD.boot (r:RD) (x y:CH):RD:=⟨qlr r.a r.c r.h x,qlr r.b r.e r.k y,⟨#[]⟩,⟨#[]⟩,false,false,r.room,r.ops,0,false⟩
theorem ext_split (s:ByteArray) (m k:Nat) (h:m + k≤s.size):s.extract 0 (m + k)=s.extract 0 m ++ (s.extract m s.size).extract 0 k:=qkw (by
 have h':m + k≤s.data.size:=h
 have e:s.size=s.data.size:=rfl
 rw [ByteArray.data_append,ByteArray.data_extract,ByteArray.data_extract,ByteArray.data_extract,ByteArray.data_extract,Array.extract_extract,Nat.add_zero,e,Nat.min_eq_left h',Array.extract_append_extract]
 congr 1
 omega)
theorem qve {f:FL} (h:f.safe≤f.s.size) (c:CH):qlr (f.s.extract 0 f.safe) (f.s.extract f.safe f.s.size) f.half c=(qfg f c).s:=by
 have hz:(f.s.extract f.safe f.s.size).size=f.s.size - f.safe:=by simp
 unfold qlr qfg
 split
 ·rfl
 ·rw [hz]
  dsimp only
  rw [ext_split f.s f.safe _ (by omega)]
theorem rdOf_boot {d:DK} (h:d.ok) (a b:CH):rdOf (qnd d a b)=(rdOf d).boot a b:=by
 have h1:=qve h.a a
 have h2:=qve h.b b
 have g1:=(qgk h.a a).2
 have g2:=(qgk h.b b).2
 have k:∀ f c,(qfg f c).half=false:=fun f c=>by unfold qfg;split <;> rfl
 unfold qnd RD.boot
 show (⟨_,_,_,_,_,_,_,_,_,_⟩:RD)=⟨_,_,_,_,_,_,_,_,_,_⟩
 rw [show (rdOf d).a=d.f0.s.extract 0 d.f0.safe from rfl,show (rdOf d).b=d.f1.s.extract 0 d.f1.safe from rfl,show (rdOf d).c=d.f0.s.extract d.f0.safe d.f0.s.size from rfl,show (rdOf d).e=d.f1.s.extract d.f1.safe d.f1.s.size from rfl,show (rdOf d).h=d.f0.half from rfl,show (rdOf d).k=d.f1.half from rfl,h1,h2]
 dsimp only
 rw [g1,g2,qkx,qkx,qjr,qjr,k,k]
 rfl
set_option maxHeartbeats 4000000 in
theorem qqp (safe loose:ByteArray) (half:Bool) (c:CH) (w:World) (h1:safe.size≤1000000) (h2:loose.size≤1000000) (ht:c.trash.size≤2000000) :
 Calls Tryz.prog 54 #[.string safe,.string loose,.bool half,chV c] w fun e w'=>e=.returned (.string (qlr safe loose half c))∧Below w.heap.size w w':=by
 obtain ⟨keep,trash,reset⟩:=c
 dsimp only at ht
 by_cases hb:(half && reset)=true
 ·obtain ⟨rfl,rfl⟩:half=true∧reset=true:=by simpa using hb
  rw [show qlr safe loose true ⟨keep,trash,true⟩=⟨#[]⟩ from rfl]
  unfold chV
  dsimp only
  clear hb
  go_enter Tryz.func54,Tryz.ntmps54
  go_wp2
  go_ret
  exact ⟨rfl,bel1 w _⟩
 have hb':(half && reset)=false:=by simpa using hb
 obtain ⟨L,hL⟩:∃ L,loose.size=L:=⟨_,rfl⟩
 obtain ⟨k,hk⟩:∃ k,min keep.toNat L=k:=⟨_,rfl⟩
 obtain ⟨j,hj⟩:∃ j,min trash.size (L - k)=j:=⟨_,rfl⟩
 have hq:qlr safe loose half ⟨keep,trash,reset⟩=safe ++ loose.extract 0 k ++ trash.extract 0 j:=by
  unfold qlr
  rw [if_neg (by dsimp only;rw [hb'];simp)]
  dsimp only
  rw [hL,hk,hj]
 rw [hq]
 have hz1:(safe ++ loose.extract 0 k).size≤2000000:=by rw [qcy];simp;omega
 unfold chV
 dsimp only
 have hcs:half=false∨(half=true∧reset=false):=by
  cases half
  ·exact Or.inl rfl
  ·exact Or.inr ⟨rfl,by simpa using hb'⟩
 have hks:(keep < 0∧k=0)∨(¬ keep < 0∧(L:Int) < keep∧k=L)∨(¬ keep < 0∧¬ (L:Int) < keep∧keep=(k:Int)):=by omega
 have hts:((L:Int) - (k:Int) < (trash.size:Int)∧(L:Int) - (k:Int)=(j:Int))∨(¬ (L:Int) - (k:Int) < (trash.size:Int)∧j=trash.size):=by omega
 have hkL:k≤L:=by omega
 have hjt:j≤trash.size:=by omega
 clear hq hb hb' hk hj
 rcases hcs with rfl | ⟨rfl,rfl⟩ <;> rcases hks with ⟨a1,rfl⟩ | ⟨a1,a2,rfl⟩ | ⟨a1,a2,rfl⟩ <;> rcases hts with ⟨b1,b2⟩ | ⟨b1,rfl⟩
 all_goals
  go_enter Tryz.func54,Tryz.ntmps54
  go_wp2
  go_ret
  refine ⟨?_,bel1 w _⟩
  first | rfl | (rw [qkx];done) | (have hjL:j=L:=(by omega);subst hjL;refine congrArg Ending.returned (congrArg Value.string (qkw ?_));simp)
end Go.Proofs.YtjkecckndfcbjaaGreatDoor
namespace Go.Proofs.YtjkecckndfcbjaaGreatDoor
open Go.RowKit
set_option maxRecDepth 100000
theorem qvf {W:World} {g:Nat} {t:TypeId} {x0 x1 x2:Value} (h:W.heap[g]?=some (.cells #[x0,x1,x2] t (0,0))):W.cell? ⟨g,0,none⟩=some x0∧W.cell? ⟨g,1,none⟩=some x1∧W.cell? ⟨g,2,none⟩=some x2:=by
 refine ⟨?_,?_,?_⟩ <;> (rw [qac h];rfl)
theorem box4_C (w:World) (o0 o1 o2 o3:Obj):((((w.alloc o0).alloc o1).alloc o2).alloc o3).heap[w.heap.size]?=some o0∧((((w.alloc o0).alloc o1).alloc o2).alloc o3).heap[w.heap.size + 1]?=some o1∧((((w.alloc o0).alloc o1).alloc o2).alloc o3).heap[w.heap.size + 2]?=some o2∧((((w.alloc o0).alloc o1).alloc o2).alloc o3).heap[w.heap.size + 3]?=some o3:=by
 have e1:(w.alloc o0).heap.size=w.heap.size + 1:=by simp
 have e2:((w.alloc o0).alloc o1).heap.size=w.heap.size + 2:=by simp
 have e3:(((w.alloc o0).alloc o1).alloc o2).heap.size=w.heap.size + 3:=by simp
 have h0:=qas w o0
 have h1:=qas (w.alloc o0) o1
 have h2:=qas ((w.alloc o0).alloc o1) o2
 have h3:=qas (((w.alloc o0).alloc o1).alloc o2) o3
 rw [e1] at h1
 rw [e2] at h2
 rw [e3] at h3
 refine ⟨?_,?_,?_,h3⟩
 ·exact (Below.heap_alloc _ _ _ (by simp <;> omega)).trans ((Below.heap_alloc _ _ _ (by simp <;> omega)).trans ((Below.heap_alloc _ _ _ (by simp <;> omega)).trans h0))
 ·exact (Below.heap_alloc _ _ _ (by simp <;> omega)).trans ((Below.heap_alloc _ _ _ (by simp <;> omega)).trans h1)
 ·exact (Below.heap_alloc _ _ _ (by simp <;> omega)).trans h2
set_option maxHeartbeats 8000000 in
theorem rBoot_any (r:RD) (cx cy:CH) (w:World) (hok:r.ok) (ha:cx.trash.size≤2000000) (hb:cy.trash.size≤2000000) :
 Calls Tryz.prog 83 #[rdV r,chV cx,chV cy] w fun e w'=>e=.returned (rdV (r.boot cx cy))∧Below w.heap.size w w':=by
 have htot:=hok.fit
 have hroom:=hok.room
 unfold RD.tot at htot
 have HL0:=hI (fun (W:World)=>qqp r.a r.c r.h cx W (by omega) (by omega) ha)
 have HL1:=hI (fun (W:World)=>qqp r.b r.e r.k cy W (by omega) (by omega) hb)
 unfold RD.boot
 generalize qlr r.a r.c r.h cx=x at HL0 ⊢
 generalize qlr r.b r.e r.k cy=y at HL1 ⊢
 clear hok ha hb htot hroom
 obtain ⟨a,b,c,e,h,k,R,O,M,D⟩:=r
 obtain ⟨kx,tx,rx⟩:=cx
 obtain ⟨ky,ty,ry⟩:=cy
 unfold chV at HL0 HL1
 unfold chV rdV qbh
 dsimp only at HL0 HL1 ⊢
 go_enter Tryz.func83,Tryz.ntmps83
 go_upto_region 1 with fail
 generalize hw1:(((w.alloc (.cells #[.string a,.string b,.string c,.string e,.bool h,.bool k,.int .i64 (R:Int),.int .i64 (O:Int),.int .i64 (M:Int),.bool D] 33)).alloc (.cells #[.int .i64 kx,.string tx,.bool rx] 115)).alloc (.cells #[.int .i64 ky,.string ty,.bool ry] 115)).alloc (.cells #[.string ⟨#[]⟩,.string ⟨#[]⟩,.string ⟨#[]⟩,.string ⟨#[]⟩,.bool false,.bool false,.int .i64 0,.int .i64 0,.int .i64 0,.bool false] 33)=w1
 obtain ⟨q0,q1,q2,q3⟩:=box4_C w (.cells #[.string a,.string b,.string c,.string e,.bool h,.bool k,.int .i64 (R:Int),.int .i64 (O:Int),.int .i64 (M:Int),.bool D] 33) (.cells #[.int .i64 kx,.string tx,.bool rx] 115) (.cells #[.int .i64 ky,.string ty,.bool ry] 115) (.cells #[.string ⟨#[]⟩,.string ⟨#[]⟩,.string ⟨#[]⟩,.string ⟨#[]⟩,.bool false,.bool false,.int .i64 0,.int .i64 0,.int .i64 0,.bool false] 33)
 rw [hw1] at q0 q1 q2 q3
 have HX1:Hid (w1.heap[w.heap.size]?=some (.cells #[.string a,.string b,.string c,.string e,.bool h,.bool k,.int .i64 (R:Int),.int .i64 (O:Int),.int .i64 (M:Int),.bool D] 33 (0,0))):=q0
 have HA1:Hid (w1.heap[w.heap.size + 1]?=some (.cells #[.int .i64 kx,.string tx,.bool rx] 115 (0,0))):=q1
 have HC1:Hid (w1.heap[w.heap.size + 2]?=some (.cells #[.int .i64 ky,.string ty,.bool ry] 115 (0,0))):=q2
 have HY1:Hid (w1.heap[w.heap.size + 3]?=some (.cells #[.string ⟨#[]⟩,.string ⟨#[]⟩,.string ⟨#[]⟩,.string ⟨#[]⟩,.bool false,.bool false,.int .i64 0,.int .i64 0,.int .i64 0,.bool false] 33 (0,0))):=q3
 have HB1:Hid (Below w.heap.size w w1):=by rw [←hw1];exact qab (qab (qab (bel1 w _) _) _) _
 clear q0 q1 q2 q3 hw1
 have KS:Hid (∀ W,Below w1.heap.size w1 W→(∀ j,W.frozen? ⟨w.heap.size,j,none⟩=false)∧(W.cell? ⟨w.heap.size,0,none⟩=some (.string a)∧W.cell? ⟨w.heap.size,1,none⟩=some (.string b)∧W.cell? ⟨w.heap.size,2,none⟩=some (.string c)∧W.cell? ⟨w.heap.size,3,none⟩=some (.string e)∧W.cell? ⟨w.heap.size,4,none⟩=some (.bool h)∧W.cell? ⟨w.heap.size,5,none⟩=some (.bool k))∧(W.cell? ⟨w.heap.size + 1,0,none⟩=some (.int .i64 kx)∧W.cell? ⟨w.heap.size + 1,1,none⟩=some (.string tx)∧W.cell? ⟨w.heap.size + 1,2,none⟩=some (.bool rx))∧(W.cell? ⟨w.heap.size + 2,0,none⟩=some (.int .i64 ky)∧W.cell? ⟨w.heap.size + 2,1,none⟩=some (.string ty)∧W.cell? ⟨w.heap.size + 2,2,none⟩=some (.bool ry))):=fun W hW=>by
  obtain ⟨p0,p1,p2,p3,p4,p5,-⟩:=qam ((hW.block _ (qaa HX1.out)).trans HX1.out)
  obtain ⟨b0,b1,b2⟩:=qvf ((hW.block _ (qaa HA1.out)).trans HA1.out)
  obtain ⟨c0,c1,c2⟩:=qvf ((hW.block _ (qaa HC1.out)).trans HC1.out)
  exact ⟨fun j=>Lib.frozen_of_heap ((hW.block _ (qaa HX1.out)).trans HX1.out) j,⟨p0,p1,p2,p3,p4,p5⟩,⟨b0,b1,b2⟩,c0,c1,c2⟩
 refine qha (S:=fun W=>(∀ j,W.frozen? ⟨w.heap.size,j,none⟩=false)∧(W.cell? ⟨w.heap.size,0,none⟩=some (.string a)∧W.cell? ⟨w.heap.size,1,none⟩=some (.string b)∧W.cell? ⟨w.heap.size,2,none⟩=some (.string c)∧W.cell? ⟨w.heap.size,3,none⟩=some (.string e)∧W.cell? ⟨w.heap.size,4,none⟩=some (.bool h)∧W.cell? ⟨w.heap.size,5,none⟩=some (.bool k))∧(W.cell? ⟨w.heap.size + 1,0,none⟩=some (.int .i64 kx)∧W.cell? ⟨w.heap.size + 1,1,none⟩=some (.string tx)∧W.cell? ⟨w.heap.size + 1,2,none⟩=some (.bool rx))∧(W.cell? ⟨w.heap.size + 2,0,none⟩=some (.int .i64 ky)∧W.cell? ⟨w.heap.size + 2,1,none⟩=some (.string ty)∧W.cell? ⟨w.heap.size + 2,2,none⟩=some (.bool ry))) (by kernel_rfl) ?_
 have hb1:=Below.refl w1.heap.size w1
 have hb1d:Below w1.heap.size w1 w1.drew:=hb1.drew
 refine qbv (some 7) (i:=0) (v:=?_) rfl rfl (by kernel_rfl) (by kernel_rfl) (by kernel_rfl) (by kernel_rfl) (fun _ _ _ h=>h) (Or.inl ⟨by rfl,?_⟩) (KS.out _ hb1d) ?_
 rotate_left
 ·(intro W hW;obtain ⟨fz,⟨p0,p1,p2,p3,p4,p5⟩,⟨b0,b1,b2⟩,c0,c1,c2⟩:=hW;go_simp;with_reducible rfl)
 simp only [Act.put,sA,s0,s1]
 refine qbv (some 8) (i:=1) (v:=?_) rfl rfl (by kernel_rfl) (by kernel_rfl) (by kernel_rfl) (by kernel_rfl) (fun _ _ _ h=>h) (Or.inl ⟨by rfl,?_⟩) (KS.out _ hb1d) ?_
 rotate_left
 ·(intro W hW;obtain ⟨fz,⟨p0,p1,p2,p3,p4,p5⟩,⟨b0,b1,b2⟩,c0,c1,c2⟩:=hW;go_simp;with_reducible rfl)
 simp only [Act.put,sA,s0,s1]
 refine qbv (some 9) (i:=2) (v:=?_) rfl rfl (by kernel_rfl) (by kernel_rfl) (by kernel_rfl) (by kernel_rfl) (fun _ _ _ h=>h) (Or.inl ⟨by rfl,?_⟩) (KS.out _ hb1d) ?_
 rotate_left
 ·(intro W hW;obtain ⟨fz,⟨p0,p1,p2,p3,p4,p5⟩,⟨b0,b1,b2⟩,c0,c1,c2⟩:=hW;go_simp;with_reducible rfl)
 simp only [Act.put,sA,s0,s1]
 refine qbv (some 10) (i:=3) (v:=?_) rfl rfl (by kernel_rfl) (by kernel_rfl) (by kernel_rfl) (by kernel_rfl) (fun _ _ _ h=>h) (Or.inl ⟨by rfl,?_⟩) (KS.out _ hb1d) ?_
 rotate_left
 ·(intro W hW;obtain ⟨fz,⟨p0,p1,p2,p3,p4,p5⟩,⟨b0,b1,b2⟩,c0,c1,c2⟩:=hW;go_simp;with_reducible rfl)
 simp only [Act.put,sA,s0,s1]
 refine qbv (some 11) (i:=4) (v:=?_) rfl rfl (by kernel_rfl) (by kernel_rfl) (by kernel_rfl) (by kernel_rfl) (fun _ _ _ h=>h) (Or.inl ⟨by rfl,?_⟩) (KS.out _ hb1d) ?_
 rotate_left
 ·(intro W hW;obtain ⟨fz,⟨p0,p1,p2,p3,p4,p5⟩,⟨b0,b1,b2⟩,c0,c1,c2⟩:=hW;go_simp;with_reducible rfl)
 simp only [Act.put,sA,s0,s1]
 refine qbv (some 12) (i:=5) (v:=?_) rfl rfl (by kernel_rfl) (by kernel_rfl) (by kernel_rfl) (by kernel_rfl) (fun _ _ _ h=>h) (Or.inl ⟨by rfl,?_⟩) (KS.out _ hb1d) ?_
 rotate_left
 ·(intro W hW;obtain ⟨fz,⟨p0,p1,p2,p3,p4,p5⟩,⟨b0,b1,b2⟩,c0,c1,c2⟩:=hW;go_simp;with_reducible rfl)
 simp only [Act.put,sA,s0,s1]
 refine qbv (some 13) (i:=6) (v:=?_) rfl rfl (by kernel_rfl) (by kernel_rfl) (by kernel_rfl) (by kernel_rfl) (fun _ _ _ h=>h) (Or.inl ⟨by rfl,?_⟩) (KS.out _ hb1d) ?_
 rotate_left
 ·(intro W hW;obtain ⟨fz,⟨p0,p1,p2,p3,p4,p5⟩,⟨b0,b1,b2⟩,c0,c1,c2⟩:=hW;go_simp;with_reducible rfl)
 simp only [Act.put,sA,s0,s1]
 refine qbv (some 14) (i:=7) (v:=?_) rfl rfl (by kernel_rfl) (by kernel_rfl) (by kernel_rfl) (by kernel_rfl) (fun _ _ _ h=>h) (Or.inl ⟨by rfl,?_⟩) (KS.out _ hb1d) ?_
 rotate_left
 ·(intro W hW;obtain ⟨fz,⟨p0,p1,p2,p3,p4,p5⟩,⟨b0,b1,b2⟩,c0,c1,c2⟩:=hW;go_simp;with_reducible rfl)
 simp only [Act.put,sA,s0,s1]
 refine qbv (some 15) (i:=8) (v:=?_) rfl rfl (by kernel_rfl) (by kernel_rfl) (by kernel_rfl) (by kernel_rfl) (fun _ _ _ h=>h) (Or.inl ⟨by rfl,?_⟩) (KS.out _ hb1d) ?_
 rotate_left
 ·(intro W hW;obtain ⟨fz,⟨p0,p1,p2,p3,p4,p5⟩,⟨b0,b1,b2⟩,c0,c1,c2⟩:=hW;go_simp;with_reducible rfl)
 simp only [Act.put,sA,s0,s1]
 refine qbv (some 16) (i:=9) (v:=?_) rfl rfl (by kernel_rfl) (by kernel_rfl) (by kernel_rfl) (by kernel_rfl) (fun _ _ _ h=>h) (Or.inl ⟨by rfl,?_⟩) (KS.out _ hb1d) ?_
 rotate_left
 ·(intro W hW;obtain ⟨fz,⟨p0,p1,p2,p3,p4,p5⟩,⟨b0,b1,b2⟩,c0,c1,c2⟩:=hW;go_simp;with_reducible rfl)
 simp only [Act.put,sA,s0,s1]
 refine qbv (some 18) (i:=11) (v:=?_) rfl rfl (by kernel_rfl) (by kernel_rfl) (by kernel_rfl) (by kernel_rfl) (fun _ _ _ h=>h) (Or.inl ⟨by rfl,?_⟩) (KS.out _ hb1d) ?_
 rotate_left
 ·(intro W hW;obtain ⟨fz,⟨p0,p1,p2,p3,p4,p5⟩,⟨b0,b1,b2⟩,c0,c1,c2⟩:=hW;go_simp;with_reducible rfl)
 simp only [Act.put,sA,s0,s1]
 refine qbv (some 19) (i:=12) (v:=?_) rfl rfl (by kernel_rfl) (by kernel_rfl) (by kernel_rfl) (by kernel_rfl) (fun _ _ _ h=>h) (Or.inl ⟨by rfl,?_⟩) (KS.out _ hb1d) ?_
 rotate_left
 ·(intro W hW;obtain ⟨fz,⟨p0,p1,p2,p3,p4,p5⟩,⟨b0,b1,b2⟩,c0,c1,c2⟩:=hW;go_simp;with_reducible rfl)
 simp only [Act.put,sA,s0,s1]
 refine qbv (some 20) (i:=13) (v:=?_) rfl rfl (by kernel_rfl) (by kernel_rfl) (by kernel_rfl) (by kernel_rfl) (fun _ _ _ h=>h) (Or.inl ⟨by rfl,?_⟩) (KS.out _ hb1d) ?_
 rotate_left
 ·(intro W hW;obtain ⟨fz,⟨p0,p1,p2,p3,p4,p5⟩,⟨b0,b1,b2⟩,c0,c1,c2⟩:=hW;go_simp;with_reducible rfl)
 simp only [Act.put,sA,s0,s1]
 refine qbv (some 21) (i:=14) (v:=?_) rfl rfl (by kernel_rfl) (by kernel_rfl) (by kernel_rfl) (by kernel_rfl) (fun _ _ _ h=>h) (Or.inl ⟨by rfl,?_⟩) (KS.out _ hb1d) ?_
 rotate_left
 ·(intro W hW;obtain ⟨fz,⟨p0,p1,p2,p3,p4,p5⟩,⟨b0,b1,b2⟩,c0,c1,c2⟩:=hW;go_simp;with_reducible rfl)
 simp only [Act.put,sA,s0,s1]
 refine qbv (some 22) (i:=15) (v:=?_) rfl rfl (by kernel_rfl) (by kernel_rfl) (by kernel_rfl) (by kernel_rfl) (fun _ _ _ h=>h) (Or.inl ⟨by rfl,?_⟩) (KS.out _ hb1d) ?_
 rotate_left
 ·(intro W hW;obtain ⟨fz,⟨p0,p1,p2,p3,p4,p5⟩,⟨b0,b1,b2⟩,c0,c1,c2⟩:=hW;go_simp;with_reducible rfl)
 simp only [Act.put,sA,s0,s1]
 refine qbv (some 23) (i:=16) (v:=?_) rfl rfl (by kernel_rfl) (by kernel_rfl) (by kernel_rfl) (by kernel_rfl) (fun _ _ _ h=>h) (Or.inl ⟨by rfl,?_⟩) (KS.out _ hb1d) ?_
 rotate_left
 ·(intro W hW;obtain ⟨fz,⟨p0,p1,p2,p3,p4,p5⟩,⟨b0,b1,b2⟩,c0,c1,c2⟩:=hW;go_simp;with_reducible rfl)
 simp only [Act.put,sA,s0,s1]
 refine qbv (some 24) (i:=17) (v:=?_) rfl rfl (by kernel_rfl) (by kernel_rfl) (by kernel_rfl) (by kernel_rfl) (fun _ _ _ h=>h) (Or.inl ⟨by rfl,?_⟩) (KS.out _ hb1d) ?_
 rotate_left
 ·(intro W hW;obtain ⟨fz,⟨p0,p1,p2,p3,p4,p5⟩,⟨b0,b1,b2⟩,c0,c1,c2⟩:=hW;go_simp;with_reducible rfl)
 simp only [Act.put,sA,s0,s1]
 refine qbv (some 25) (i:=18) (v:=?_) rfl rfl (by kernel_rfl) (by kernel_rfl) (by kernel_rfl) (by kernel_rfl) (fun _ _ _ h=>h) (Or.inl ⟨by rfl,?_⟩) (KS.out _ hb1d) ?_
 rotate_left
 ·(intro W hW;obtain ⟨fz,⟨p0,p1,p2,p3,p4,p5⟩,⟨b0,b1,b2⟩,c0,c1,c2⟩:=hW;go_simp;with_reducible rfl)
 simp only [Act.put,sA,s0,s1]
 refine qbv (some 26) (i:=19) (v:=?_) rfl rfl (by kernel_rfl) (by kernel_rfl) (by kernel_rfl) (by kernel_rfl) (fun _ _ _ h=>h) (Or.inl ⟨by rfl,?_⟩) (KS.out _ hb1d) ?_
 rotate_left
 ·(intro W hW;obtain ⟨fz,⟨p0,p1,p2,p3,p4,p5⟩,⟨b0,b1,b2⟩,c0,c1,c2⟩:=hW;go_simp;with_reducible rfl)
 simp only [Act.put,sA,s0,s1]
 refine qbv (some 27) (i:=20) (v:=?_) rfl rfl (by kernel_rfl) (by kernel_rfl) (by kernel_rfl) (by kernel_rfl) (fun _ _ _ h=>h) (Or.inl ⟨by rfl,?_⟩) (KS.out _ hb1d) ?_
 rotate_left
 ·(intro W hW;obtain ⟨fz,⟨p0,p1,p2,p3,p4,p5⟩,⟨b0,b1,b2⟩,c0,c1,c2⟩:=hW;go_simp;with_reducible rfl)
 simp only [Act.put,sA,s0,s1]
 refine qbn (rs:=[10]) (by kernel_rfl) (by simp) (AllReadyT.cons rfl (fun K hK=>?_) AllReadyT.nil)
 go_simp
 refine (HL0.out _).mono ?_
 rintro e w2 ⟨rfl,hb2⟩
 have HB2:=hI (qad hb1d hb2)
 clear hb2 HL0
 refine hK.out _ _ (KS.out _ HB2.out) (fun _=>?_)
 clear hK K
 refine qbn (rs:=[21]) (by kernel_rfl) (by simp) (AllReadyT.cons rfl (fun K hK=>?_) AllReadyT.nil)
 go_simp
 refine (HL1.out _).mono ?_
 rintro e w3 ⟨rfl,hb3⟩
 have HB3:=hI (qad HB2.out hb3)
 clear hb3 HL1
 refine hK.out _ _ (KS.out _ HB3.out) (fun _=>?_)
 clear hK K
 refine qbv (some 29) (i:=22) (v:=?_) rfl rfl (by kernel_rfl) (by kernel_rfl) (by kernel_rfl) (by kernel_rfl) (fun _ _ _ h=>h) (Or.inl ⟨by rfl,?_⟩) (KS.out _ HB3.out) ?_
 rotate_left
 ·(intro W hW;obtain ⟨fz,⟨p0,p1,p2,p3,p4,p5⟩,⟨b0,b1,b2⟩,c0,c1,c2⟩:=hW;go_simp;with_reducible rfl)
 simp only [Act.put,sA,s0,s1]
 refine qbv (some 30) (i:=23) (v:=?_) rfl rfl (by kernel_rfl) (by kernel_rfl) (by kernel_rfl) (by kernel_rfl) (fun _ _ _ h=>h) (Or.inl ⟨by rfl,?_⟩) (KS.out _ HB3.out) ?_
 rotate_left
 ·(intro W hW;obtain ⟨fz,⟨p0,p1,p2,p3,p4,p5⟩,⟨b0,b1,b2⟩,c0,c1,c2⟩:=hW;go_simp;with_reducible rfl)
 simp only [Act.put,sA,s0,s1]
 have HX3:=hI ((HB3.out.block _ (qaa HX1.out)).trans HX1.out)
 have HY3:=hI ((HB3.out.block _ (qaa HY1.out)).trans HY1.out)
 have HBW:=hI (qad HB1.out HB3.out)
 have hlt3:w.heap.size < w3.heap.size:=qaa HX3.out
 obtain ⟨g0,g1,g2,g3,g4,g5,g6,g7,g8,g9⟩:=qam HX3.out
 have fx:∀ j,w3.frozen? ⟨w.heap.size,j,none⟩=false:=fun j=>Lib.frozen_of_heap HX3.out j
 have x0:=fx 0
 have x1:=fx 1
 have x2:=fx 2
 have x3:=fx 3
 have x4:=fx 4
 have x5:=fx 5
 have x8:=fx 8
 have x9:=fx 9
 refine qbn (rs:=[24]) (by kernel_rfl) (by simp) (AllReadyT.last rfl (by kernel_rfl) (fun K hK=>?_))
 go_simp
 refine hK.out _ _ ?_
 clear hK K KS HX1 HA1 HC1 HY1 HB1 HB2 hb1 hb1d HB3
 refine qgz (by kernel_rfl) ?_ _
 go_upto_region 6 with fail
 generalize hw4:((((((((w3.setCell ⟨w.heap.size,0,none⟩ (.string x)).setCell ⟨w.heap.size,1,none⟩ (.string y)).setCell ⟨w.heap.size,2,none⟩ (.string ⟨#[]⟩)).setCell ⟨w.heap.size,3,none⟩ (.string ⟨#[]⟩)).setCell ⟨w.heap.size,4,none⟩ (.bool false)).setCell ⟨w.heap.size,5,none⟩ (.bool false)).setCell ⟨w.heap.size,8,none⟩ (.int .i64 0)).setCell ⟨w.heap.size,9,none⟩ (.bool false))=w4
 have HX4:Hid (w4.heap[w.heap.size]?=some (.cells #[.string x,.string y,.string ⟨#[]⟩,.string ⟨#[]⟩,.bool false,.bool false,.int .i64 (R:Int),.int .i64 (O:Int),.int .i64 0,.bool false] 33 (0,0))):=by
  show _=_
  rw [←hw4,(qae (qae (qae (qae (qae (qae (qae (qae HX3.out 0 (.string x)) 1 (.string y)) 2 (.string ⟨#[]⟩)) 3 (.string ⟨#[]⟩)) 4 (.bool false)) 5 (.bool false)) 8 (.int .i64 0)) 9 (.bool false))]
  simp only [List.setIfInBounds_toArray,List.set_cons_succ,List.set_cons_zero]
 have HBU:But w.heap.size w3 w4:=by
  rw [←hw4]
  repeat refine But.set ?_ _ _
  exact But.refl _ _
 have HY4:=hI (HBU.heap HY3.out (by omega))
 have HB4:Hid (Below w.heap.size w w4):=HBU.below HBW.out (Nat.le_refl _) HBW.out.size
 clear hw4 HBU HX3 HY3 HBW fx g0 g1 g2 g3 g4 g5 g6 g7 g8 g9 x0 x1 x2 x3 x4 x5 x8 x9 hlt3
 obtain ⟨p0,p1,p2,p3,p4,p5,p6,p7,p8,p9⟩:=qam HX4.out
 obtain ⟨y0,y1,y2,y3,y4,y5,y6,y7,y8,y9⟩:=qam HY4.out
 have fy:∀ j,w4.frozen? ⟨w.heap.size + 3,j,none⟩=false:=fun j=>Lib.frozen_of_heap HY4.out j
 have z0:=fy 0
 have z1:=fy 1
 have z2:=fy 2
 have z3:=fy 3
 have z4:=fy 4
 have z5:=fy 5
 have z6:=fy 6
 have z7:=fy 7
 have z8:=fy 8
 have z9:=fy 9
 go_wp2
 refine bodyPost_ret (v:=.agg #[.string x,.string y,.string ⟨#[]⟩,.string ⟨#[]⟩,.bool false,.bool false,.int .i64 (R:Int),.int .i64 (O:Int),.int .i64 0,.bool false]) (by simp [results,Tryz.results83,go_sem,y0,y1,y2,y3,y4,y5,y6,y7,y8,y9]) rfl ⟨rfl,qeu HB4.out (Nat.le_add_right _ 3)⟩
end Go.Proofs.YtjkecckndfcbjaaGreatDoor
namespace Go.Proofs.YtjkecckndfcbjaaGreatDoor
open Go.RowKit Go.Sort Crc Nb
set_option maxRecDepth 100000
set_option maxHeartbeats 8000000 in
theorem qfl (s:ByteArray) (w:World) (hs:s.size≤1000000) :
 Calls Tryz.prog 40 #[.string s] w (TellP s w):=by
 obtain ⟨i0,hi0,hz0,hz1,hz2⟩:=info_parts ev_info
 have HA:=hI (rfAll_any s (w.alloc (.cells (qau zT (.slice none 0 0) false) 101)) hs)
 have HTK:Hid (∀ (b:List UInt8) (W:World),b.length≤20000→Calls Tryz.prog 70 #[.string ⟨b.toArray⟩] W fun e w'=>(∃ r,e=.returned (.tuple #[recV r,.int .i64 (rtC b:Int)])∧(rtC b≠0→r=zR)∧(rtC b=0→r=recO b))∧Below W.heap.size W w'):=fun b W hl=>by
  refine (qps ⟨b.toArray⟩ W (by rw [qaz];omega)).mono ?_
  rintro e w' ⟨⟨r,h1,h2,h3⟩,hb'⟩
  exact ⟨⟨r,h1,h2,h3⟩,hb'⟩
 have HSZ:Hid (∀ (b:List UInt8) (W:World),b.length≤20000→Calls Tryz.prog 71 #[.string ⟨b.toArray⟩] W fun e w'=>(∃ f:ByteArray,e=.returned (.tuple #[.string f,.int .i64 0])∧f.size=(qak b).length)∧Below W.heap.size W w'):=fun b W hl=>by
  refine (qkt ⟨b.toArray⟩ W (by rw [qaz];omega)).mono ?_
  rintro e w' ⟨h1,hb'⟩
  exact ⟨⟨_,h1,by unfold frW;rw [qaz]⟩,hb'⟩
 obtain ⟨g1,g2,g3,g4⟩:=qfp s.data.toList
 have g5:=qiz s.data.toList
 have elen:s.data.toList.length=s.size:=by simp
 rw [elen] at g4 g5
 obtain ⟨bs,hbs⟩:∃ bs:Array (List UInt8),(allL s.data.toList).1.toArray=bs:=⟨_,rfl⟩
 have hbl:(allL s.data.toList).1=bs.toList:=by rw [←hbs]
 have HTE:Hid (qdh s.data.toList=qeb zT 0 (bs.toList.drop 0)):=by show _=_;rw [List.drop_zero,←hbl];rfl
 have HFW:Hid (∀ i,i < bs.size→bs[i]!.length≤20000):=fun i hi=>by
  refine g1 _ ?_
  rw [hbl,getElem!_pos bs i hi]
  exact Array.getElem_mem_toList hi
 have hbz:bs.size≤200000:=by
  have:(allL s.data.toList).1.length=bs.size:=by rw [hbl];simp
  omega
 have HSM:Hid (zT.n + ((bs.toList.drop 0).flatMap qak).length≤s.size):=by
  show _≤_
  rw [List.drop_zero,←hbl,←g2]
  show 0 + _≤_
  omega
 unfold AllF at HA
 rw [hbs] at HA
 clear g1 g2 g3 g4 g5 elen hbs hbl
 go_enter Tryz.func40,Tryz.ntmps40
 go_wp2_with fail
 refine HA.out.mono ?_
 rintro e w1 ⟨vB,rfl,hownB,hb1⟩
 obtain ⟨AB,cB,rfl,hrB,_⟩:=qbo hownB
 have HRB:=hI hrB
 have HB1:=hI (qad (bel1 w (.cells (qau zT (.slice none 0 0) false) 101)) hb1)
 have HW2:Hid (w1.heap[w.heap.size]?=some (.cells (qau zT (.slice none 0 0) false) 101 (0,0))):=(hb1.block _ (by simp)).trans (qas w _)
 have hlt1:w.heap.size < w1.heap.size:=by have:=hb1.size;simp at this;omega
 clear hownB hrB hb1 HA
 go_upto_region 4 with (fail)
 obtain ⟨w2,hw2⟩:∃ W,w1.alloc (.cells #[.int .i64 0,.string ⟨#[]⟩,.slice none 0 0,.bool false] 101)=W:=⟨_,rfl⟩
 have HX0:Hid (w2.heap[w1.heap.size]?=some (.cells (qau zT (.slice none 0 0) false) 101 (0,0))):=by rw [←hw2];exact qas w1 _
 have HBA:Hid (Below w1.heap.size w1 w2):=by rw [←hw2];exact bel1 w1 _
 have hsz0:w2.heap.size=w1.heap.size + 1:=by rw [←hw2];simp
 rw [hw2]
 clear hw2
 go_wp2_with fail
 go_loopw [6,7] (fun en iv wr=>∃ (i:Nat) (t:TL) (Am:Option Addr) (cm:Nat),iv=.int .i64 (i:Int)∧en=.int .i64 (t.n:Int)∧i≤bs.size∧t.evs.length≤i∧Hid (qdh s.data.toList=qeb t i (bs.toList.drop i))∧Hid (t.n + ((bs.toList.drop i).flatMap qak).length≤s.size)∧Hid (wr.heap[w1.heap.size]?=some (.cells (qau t (.slice Am (evA t.evs).size cm) false) 101 (0,0)))∧Hid (wr.ownsRow (w1.heap.size + 1) 56 2 (.slice Am (evA t.evs).size cm) (evA t.evs).size (flatK qbx 2 (evA t.evs)).toList)∧Hid (Below w1.heap.size w1 wr)∧Hid (w1.heap.size + 1≤wr.heap.size)) (fun _ i _=>bs.size - (intOf i).toNat)
 case atStart=>exact ⟨0,zT,none,0,rfl,rfl,Nat.zero_le _,Nat.le_refl _,HTE,HSM,HX0,qec _ _ _ _ _,HBA,Nat.le_of_eq hsz0.symm⟩
 case round =>
  obtain ⟨i,t,Am,cm,rfl,rfl,hi,hel,HT,HS,HX,HOW,HB,HSZW⟩:=hrel
  by_cases hlt:i < bs.size
  ·have kz:(i:Int) < (bs.size:Int):=by omega
   rw [qrm hlt] at HT HS
   obtain ⟨blk,off,rfl,hblk,f⟩:=(HRB.out.below HB.out).at_ (i:=i) hlt
   have f0:=f 0 (by omega)
   have hbl:=HFW.out i hlt
   clear f
   generalize bs[i]! = bd at f0 HT HS hbl
   simp only [Nat.add_zero,Nat.mul_one,eS,List.getElem!_cons_zero] at f0
   have HFL:Hid (t.n + (qak bd).length + ((bs.toList.drop (i + 1)).flatMap qak).length≤s.size):=by
    show _≤_
    have:=HS.out
    rw [List.flatMap_cons,List.length_append] at this
    omega
   have hfl:t.n + (qak bd).length≤1000000:=by have:=HFL.out;omega
   have HTK1:=hI (HTK.out bd wr hbl)
   have HSZ1:=hI (fun (W:World)=>HSZ.out bd W hbl)
   go_wp2_with fail
   refine HTK1.out.mono ?_
   rintro e wy ⟨⟨r,rfl,hr0,hr1⟩,hby⟩
   have HBY:=hI (HB.out.trans (hby.mono (by have:=HSZW.out;omega)))
   have HXY:Hid (wy.heap[w1.heap.size]?=some (.cells (qau t (.slice Am (evA t.evs).size cm) false) 101 (0,0))):=(hby.block _ (by have:=HSZW.out;omega)).trans HX.out
   have HOY:=hI (qat HOW.out hby)
   have HSY:Hid (w1.heap.size + 1≤wy.heap.size):=Nat.le_trans HSZW.out hby.size
   have fy:=(hby.cell (p:=⟨blk,off + i,none⟩) (by have:=HSZW.out;show blk < _;omega)).trans f0
   have hbne:blk≠w1.heap.size:=by omega
   have hblt:blk < wy.heap.size:=by have:=HSZW.out;have:=hby.size;omega
   clear HX HOW HB HSZW hby
   by_cases hrt:rtC bd=0
   ·obtain rfl:=hr1 hrt
    have hez:((rtC bd:Nat):Int)=0:=by omega
    have HRE:=hI (recO_ep hrt)
    have HN0:=hI (fun h0:i=0=>by subst h0;exact nextB_0 (t:=t) hrt)
    have HNS:=hI (fun h0:i≠0=>nextB_s (t:=t) hrt h0)
    have HWB:Hid (qiv t i bd=if i=0 then ⟨(recO bd).ep.toNat,(recO bd).st,t.evs,t.n + (qak bd).length⟩ else ⟨t.ep,t.st,t.evs ++ [((recO bd).k,(recO bd).dt)],t.n + (qak bd).length⟩):=rfl
    generalize recO bd=r at HRE HN0 HNS HWB
    obtain ⟨ep,sq,sn,k,dt,st⟩:=r
    unfold recV
    dsimp only at HRE HN0 HNS HWB ⊢
    clear hr0 hr1 HTK1
    have b5:=HXY.out
    have y0:wy.cell? ⟨w1.heap.size,0,none⟩=some (.int .i64 (t.ep:Int)):=by rw [qac b5];rfl
    have y1:wy.cell? ⟨w1.heap.size,1,none⟩=some (.string t.st):=by rw [qac b5];rfl
    have y2:wy.cell? ⟨w1.heap.size,2,none⟩=some (.slice Am (evA t.evs).size cm):=by rw [qac b5];rfl
    have z0:wy.frozen? ⟨w1.heap.size,0,none⟩=false:=Lib.frozen_of_heap b5 0
    have z1:wy.frozen? ⟨w1.heap.size,1,none⟩=false:=Lib.frozen_of_heap b5 1
    have z2:wy.frozen? ⟨w1.heap.size,2,none⟩=false:=Lib.frozen_of_heap b5 2
    have l5:w1.heap.size < wy.heap.size:=qaa b5
    clear b5
    have HRT:Hid (RoundT 101 w1.heap.size t Am cm w1 wy):=⟨HXY.out,HOY.out,HBY.out,HSY.out⟩
    have hes:(evA t.evs).size≤200000:=by rw [qbu];omega
    by_cases h0:i=0
    ·subst h0
     have hN:=HN0.out rfl
     have fy0:wy.cell? ⟨blk,off,none⟩=some (.string ⟨bd.toArray⟩):=fy
     obtain ⟨n,rfl⟩:∃ n:Nat,ep=(n:Int):=⟨ep.toNat,by have:=HRE.out;omega⟩
     cases sn
     ·have HTQ:Hid (qdh s.data.toList=t):=by show _=_;rw [HT.out,qbs hN]
      clear HWB HN0 HNS hN HRE HT HS HXY HOY HBY HSY
      have b5:=HRT.out.box
      have y0':wy.cell? ⟨w1.heap.size,0,none⟩=some (.int .i64 (t.ep:Int)):=by rw [qac b5];rfl
      have y1':wy.cell? ⟨w1.heap.size,1,none⟩=some (.string t.st):=by rw [qac b5];rfl
      have y2':wy.cell? ⟨w1.heap.size,2,none⟩=some (.slice Am (evA t.evs).size cm):=by rw [qac b5];rfl
      have y3':wy.cell? ⟨w1.heap.size,3,none⟩=some (.bool false):=by rw [qac b5];rfl
      have y4':wy.frozen? ⟨w1.heap.size,3,none⟩=false:=Lib.frozen_of_heap b5 3
      have l5':w1.heap.size < wy.heap.size:=qaa b5
      have b2:wy.heap[w.heap.size]?=some (.cells (qau zT (.slice none 0 0) false) 101 (0,0)):=(HRT.out.bel.block _ hlt1).trans HW2.out
      have x0:wy.cell? ⟨w.heap.size,0,none⟩=some (.int .i64 0):=by rw [qac b2];rfl
      have x1:wy.cell? ⟨w.heap.size,1,none⟩=some (.string ⟨#[]⟩):=by rw [qac b2];rfl
      have x2:wy.cell? ⟨w.heap.size,2,none⟩=some (.slice none 0 0):=by rw [qac b2];rfl
      have x3:wy.cell? ⟨w.heap.size,3,none⟩=some (.bool false):=by rw [qac b2];rfl
      have f0':wy.frozen? ⟨w.heap.size,0,none⟩=false:=Lib.frozen_of_heap b2 0
      have f1':wy.frozen? ⟨w.heap.size,1,none⟩=false:=Lib.frozen_of_heap b2 1
      have f2':wy.frozen? ⟨w.heap.size,2,none⟩=false:=Lib.frozen_of_heap b2 2
      have f3':wy.frozen? ⟨w.heap.size,3,none⟩=false:=Lib.frozen_of_heap b2 3
      have l2':w.heap.size < wy.heap.size:=qaa b2
      have hne2:w1.heap.size≠w.heap.size:=Nat.ne_of_gt hlt1
      have hne3:w.heap.size≠w1.heap.size:=Nat.ne_of_lt hlt1
      have HB2:=hI b2
      clear b5 b2
      obtain ⟨q,hq⟩:∃ q:Bool,decide (t.n=s.size)=q:=⟨_,rfl⟩
      have HQ:=hI hq
      clear hq
      cases q
      ·have hne:((t.n:Int) == (s.size:Int))=false:=by have:=of_decide_eq_false HQ.out;simp;omega
       go_wp2
       refine bodyPost_ret (v:=.agg (qau t (.slice Am (evA t.evs).size cm) false)) (qba (t:=2) rfl rfl ((Below.heap_alloc _ _ _ (by simpa [World.setCell] using l2')).trans (qbc HB2.out hne3))) rfl ?_
       exact TellP.alloc (qbm HB1.out HRT.out.bel HRT.out.row HQ.out.symm HTQ.out hlt1 _ _ _ _ _) _
      ·have hne:((t.n:Int) == (s.size:Int))=true:=by have:=of_decide_eq_true HQ.out;simp;omega
       go_wp2
       refine bodyPost_ret (v:=.agg (qau t (.slice Am (evA t.evs).size cm) true)) (qba (t:=2) rfl rfl ((Below.heap_alloc _ _ _ (by simpa [World.setCell] using l2')).trans (qbc HB2.out hne3))) rfl ?_
       exact TellP.alloc (qbm HB1.out HRT.out.bel HRT.out.row HQ.out.symm HTQ.out hlt1 _ _ _ _ _) _
     ·have HTQ:Hid (qdh s.data.toList=qeb ⟨n,st,t.evs,t.n + (qak bd).length⟩ 1 (bs.toList.drop 1)):=by
       show _=_
       rw [HT.out,qel hN,HWB.out,if_pos rfl]
       simp
      clear HWB HN0 HNS hN HRE HT HS HXY HOY HBY HSY
      go_wp2_with ((go_at_call 71;refine (HSZ1.out _).mono ?_;rintro e wq ⟨⟨fx,rfl,hfx⟩,hbq⟩))
      have HQ:=hI ((((HRT.out.first (n:=n) (st:=st) (k:=t.n + (qak bd).length)).alloc (.cells #[.int .i64 (n:Int),.int .i64 sq,.bool true,.int .i64 k,.string dt,.string st] 139))).below hbq)
      clear hbq
      go_roundw
      case rel=>exact ⟨1,⟨n,st,t.evs,t.n + (qak bd).length⟩,Am,cm,by go_num,by go_num,by omega,by show t.evs.length≤1;omega,HTQ,HFL,HQ.out.box,HQ.out.row,HQ.out.bel,HQ.out.size⟩
      case measure=>simp [intOf];omega
    ·have hz:((i:Int) == 0)=false:=by simp;omega
     have hp:0 < i:=by omega
     have hN:=HNS.out h0
     cases sn
     ·by_cases h1:ep=(t.ep:Int)
      ·subst h1
       by_cases h2:sq=(i:Int)
       ·subst h2
        have HTQ:Hid (qdh s.data.toList=qeb ⟨t.ep,t.st,t.evs ++ [(k,dt)],t.n + (qak bd).length⟩ (i + 1) (bs.toList.drop (i + 1))):=by
         show _=_
         rw [HT.out,qel (by rw [hN];simp),HWB.out,if_neg h0]
        clear HWB HN0 HNS hN HRE HT HS HXY HOY HBY HSY
        have hrow:=HRT.out.row
        go_wp2_with (first | (at_builtin;refine wpList_append_own _ rfl _ _ 37 rfl (w1.heap.size + 1) 56 i0 (.agg #[.int .i64 0,.string ⟨#[]⟩]) 2 24 Tryz.underlying37 hi0 hz0 hz1 hz2 rfl (by decide) _ _ _ rfl ((hrow.alloc (.cells #[.int .i64 (t.ep:Int),.int .i64 (i:Int),.bool false,.int .i64 k,.string dt,.string st] 139)).alloc _) ⟨wy.heap.size + 1,0,none⟩ 1 1 [.int .i64 k,.string dt] rfl rfl (newF2 (wy.alloc (.cells #[.int .i64 (t.ep:Int),.int .i64 (i:Int),.bool false,.int .i64 k,.string dt,.string st] 139)) _ _ _ (by simp)) (by simp [Value.oneCell']) (by unfold maxLen;omega) (by omega) (by simp <;> omega) ?_;intro v' w4 hown' hgrow _;obtain ⟨g',cap',rfl⟩:=ownsRow_succ hown';have HQ1:=hI ((HRT.out.alloc (.cells #[.int .i64 (t.ep:Int),.int .i64 (i:Int),.bool false,.int .i64 k,.string dt,.string st] 139)).next (k:=t.n + (qak bd).length) (e:=(k,dt)) hown' hgrow);have b4:=qhg (HRT.out.alloc (.cells #[.int .i64 (t.ep:Int),.int .i64 (i:Int),.bool false,.int .i64 k,.string dt,.string st] 139)).box (HRT.out.alloc _).row (Nat.lt_succ_self _) hgrow;have y24:w4.cell? ⟨w1.heap.size,2,none⟩=some (.slice Am (evA t.evs).size cm):=(by rw [qac b4];rfl);have z24:w4.frozen? ⟨w1.heap.size,2,none⟩=false:=Lib.frozen_of_heap b4 2;have f4:w4.cell? ⟨blk,off + i,none⟩=some (.string ⟨bd.toArray⟩):=qrn fy HRT.out.row (show blk < w1.heap.size + 1 by omega) hgrow;clear b4) | (go_at_call 71;refine (HSZ1.out _).mono ?_;rintro e wq ⟨⟨fx,rfl,hfx⟩,hbq⟩))
        have HQ:=hI (HQ1.out.below hbq)
        clear hbq HQ1
        go_roundw
        case rel=>exact ⟨i + 1,⟨t.ep,t.st,t.evs ++ [(k,dt)],t.n + (qak bd).length⟩,_,_,by go_num,by go_num,by omega,by simp;omega,HTQ,HFL,HQ.out.box,HQ.out.row,HQ.out.bel,HQ.out.size⟩
        case measure=>simp [intOf];omega
       ·have h2':(sq != (i:Int))=true:=by simpa using h2
        have HTQ:Hid (qdh s.data.toList=t):=by show _=_;rw [HT.out,qbs (by rw [hN];simp [h2])]
        clear HWB HN0 HNS hN HRE HT HS HXY HOY HBY HSY
        have b5:=HRT.out.box
        have y0':wy.cell? ⟨w1.heap.size,0,none⟩=some (.int .i64 (t.ep:Int)):=by rw [qac b5];rfl
        have y1':wy.cell? ⟨w1.heap.size,1,none⟩=some (.string t.st):=by rw [qac b5];rfl
        have y2':wy.cell? ⟨w1.heap.size,2,none⟩=some (.slice Am (evA t.evs).size cm):=by rw [qac b5];rfl
        have y3':wy.cell? ⟨w1.heap.size,3,none⟩=some (.bool false):=by rw [qac b5];rfl
        have y4':wy.frozen? ⟨w1.heap.size,3,none⟩=false:=Lib.frozen_of_heap b5 3
        have l5':w1.heap.size < wy.heap.size:=qaa b5
        have b2:wy.heap[w.heap.size]?=some (.cells (qau zT (.slice none 0 0) false) 101 (0,0)):=(HRT.out.bel.block _ hlt1).trans HW2.out
        have x0:wy.cell? ⟨w.heap.size,0,none⟩=some (.int .i64 0):=by rw [qac b2];rfl
        have x1:wy.cell? ⟨w.heap.size,1,none⟩=some (.string ⟨#[]⟩):=by rw [qac b2];rfl
        have x2:wy.cell? ⟨w.heap.size,2,none⟩=some (.slice none 0 0):=by rw [qac b2];rfl
        have x3:wy.cell? ⟨w.heap.size,3,none⟩=some (.bool false):=by rw [qac b2];rfl
        have f0':wy.frozen? ⟨w.heap.size,0,none⟩=false:=Lib.frozen_of_heap b2 0
        have f1':wy.frozen? ⟨w.heap.size,1,none⟩=false:=Lib.frozen_of_heap b2 1
        have f2':wy.frozen? ⟨w.heap.size,2,none⟩=false:=Lib.frozen_of_heap b2 2
        have f3':wy.frozen? ⟨w.heap.size,3,none⟩=false:=Lib.frozen_of_heap b2 3
        have l2':w.heap.size < wy.heap.size:=qaa b2
        have hne2:w1.heap.size≠w.heap.size:=Nat.ne_of_gt hlt1
        have hne3:w.heap.size≠w1.heap.size:=Nat.ne_of_lt hlt1
        have HB2:=hI b2
        clear b5 b2
        obtain ⟨q,hq⟩:∃ q:Bool,decide (t.n=s.size)=q:=⟨_,rfl⟩
        have HQ:=hI hq
        clear hq
        cases q
        ·have hne:((t.n:Int) == (s.size:Int))=false:=by have:=of_decide_eq_false HQ.out;simp;omega
         go_wp2
         refine bodyPost_ret (v:=.agg (qau t (.slice Am (evA t.evs).size cm) false)) (qba (t:=2) rfl rfl ((Below.heap_alloc _ _ _ (by simpa [World.setCell] using l2')).trans (qbc HB2.out hne3))) rfl ?_
         exact TellP.alloc (qbm HB1.out HRT.out.bel HRT.out.row HQ.out.symm HTQ.out hlt1 _ _ _ _ _) _
        ·have hne:((t.n:Int) == (s.size:Int))=true:=by have:=of_decide_eq_true HQ.out;simp;omega
         go_wp2
         refine bodyPost_ret (v:=.agg (qau t (.slice Am (evA t.evs).size cm) true)) (qba (t:=2) rfl rfl ((Below.heap_alloc _ _ _ (by simpa [World.setCell] using l2')).trans (qbc HB2.out hne3))) rfl ?_
         exact TellP.alloc (qbm HB1.out HRT.out.bel HRT.out.row HQ.out.symm HTQ.out hlt1 _ _ _ _ _) _
      ·have h1':(ep != (t.ep:Int))=true:=by simpa using h1
       have HTQ:Hid (qdh s.data.toList=t):=by show _=_;rw [HT.out,qbs (by rw [hN];simp [h1])]
       clear HWB HN0 HNS hN HRE HT HS HXY HOY HBY HSY
       have b5:=HRT.out.box
       have y0':wy.cell? ⟨w1.heap.size,0,none⟩=some (.int .i64 (t.ep:Int)):=by rw [qac b5];rfl
       have y1':wy.cell? ⟨w1.heap.size,1,none⟩=some (.string t.st):=by rw [qac b5];rfl
       have y2':wy.cell? ⟨w1.heap.size,2,none⟩=some (.slice Am (evA t.evs).size cm):=by rw [qac b5];rfl
       have y3':wy.cell? ⟨w1.heap.size,3,none⟩=some (.bool false):=by rw [qac b5];rfl
       have y4':wy.frozen? ⟨w1.heap.size,3,none⟩=false:=Lib.frozen_of_heap b5 3
       have l5':w1.heap.size < wy.heap.size:=qaa b5
       have b2:wy.heap[w.heap.size]?=some (.cells (qau zT (.slice none 0 0) false) 101 (0,0)):=(HRT.out.bel.block _ hlt1).trans HW2.out
       have x0:wy.cell? ⟨w.heap.size,0,none⟩=some (.int .i64 0):=by rw [qac b2];rfl
       have x1:wy.cell? ⟨w.heap.size,1,none⟩=some (.string ⟨#[]⟩):=by rw [qac b2];rfl
       have x2:wy.cell? ⟨w.heap.size,2,none⟩=some (.slice none 0 0):=by rw [qac b2];rfl
       have x3:wy.cell? ⟨w.heap.size,3,none⟩=some (.bool false):=by rw [qac b2];rfl
       have f0':wy.frozen? ⟨w.heap.size,0,none⟩=false:=Lib.frozen_of_heap b2 0
       have f1':wy.frozen? ⟨w.heap.size,1,none⟩=false:=Lib.frozen_of_heap b2 1
       have f2':wy.frozen? ⟨w.heap.size,2,none⟩=false:=Lib.frozen_of_heap b2 2
       have f3':wy.frozen? ⟨w.heap.size,3,none⟩=false:=Lib.frozen_of_heap b2 3
       have l2':w.heap.size < wy.heap.size:=qaa b2
       have hne2:w1.heap.size≠w.heap.size:=Nat.ne_of_gt hlt1
       have hne3:w.heap.size≠w1.heap.size:=Nat.ne_of_lt hlt1
       have HB2:=hI b2
       clear b5 b2
       obtain ⟨q,hq⟩:∃ q:Bool,decide (t.n=s.size)=q:=⟨_,rfl⟩
       have HQ:=hI hq
       clear hq
       cases q
       ·have hne:((t.n:Int) == (s.size:Int))=false:=by have:=of_decide_eq_false HQ.out;simp;omega
        go_wp2
        refine bodyPost_ret (v:=.agg (qau t (.slice Am (evA t.evs).size cm) false)) (qba (t:=2) rfl rfl ((Below.heap_alloc _ _ _ (by simpa [World.setCell] using l2')).trans (qbc HB2.out hne3))) rfl ?_
        exact TellP.alloc (qbm HB1.out HRT.out.bel HRT.out.row HQ.out.symm HTQ.out hlt1 _ _ _ _ _) _
       ·have hne:((t.n:Int) == (s.size:Int))=true:=by have:=of_decide_eq_true HQ.out;simp;omega
        go_wp2
        refine bodyPost_ret (v:=.agg (qau t (.slice Am (evA t.evs).size cm) true)) (qba (t:=2) rfl rfl ((Below.heap_alloc _ _ _ (by simpa [World.setCell] using l2')).trans (qbc HB2.out hne3))) rfl ?_
        exact TellP.alloc (qbm HB1.out HRT.out.bel HRT.out.row HQ.out.symm HTQ.out hlt1 _ _ _ _ _) _
     ·have HTQ:Hid (qdh s.data.toList=t):=by show _=_;rw [HT.out,qbs (by rw [hN];simp)]
      clear HWB HN0 HNS hN HRE HT HS HXY HOY HBY HSY
      have b5:=HRT.out.box
      have y0':wy.cell? ⟨w1.heap.size,0,none⟩=some (.int .i64 (t.ep:Int)):=by rw [qac b5];rfl
      have y1':wy.cell? ⟨w1.heap.size,1,none⟩=some (.string t.st):=by rw [qac b5];rfl
      have y2':wy.cell? ⟨w1.heap.size,2,none⟩=some (.slice Am (evA t.evs).size cm):=by rw [qac b5];rfl
      have y3':wy.cell? ⟨w1.heap.size,3,none⟩=some (.bool false):=by rw [qac b5];rfl
      have y4':wy.frozen? ⟨w1.heap.size,3,none⟩=false:=Lib.frozen_of_heap b5 3
      have l5':w1.heap.size < wy.heap.size:=qaa b5
      have b2:wy.heap[w.heap.size]?=some (.cells (qau zT (.slice none 0 0) false) 101 (0,0)):=(HRT.out.bel.block _ hlt1).trans HW2.out
      have x0:wy.cell? ⟨w.heap.size,0,none⟩=some (.int .i64 0):=by rw [qac b2];rfl
      have x1:wy.cell? ⟨w.heap.size,1,none⟩=some (.string ⟨#[]⟩):=by rw [qac b2];rfl
      have x2:wy.cell? ⟨w.heap.size,2,none⟩=some (.slice none 0 0):=by rw [qac b2];rfl
      have x3:wy.cell? ⟨w.heap.size,3,none⟩=some (.bool false):=by rw [qac b2];rfl
      have f0':wy.frozen? ⟨w.heap.size,0,none⟩=false:=Lib.frozen_of_heap b2 0
      have f1':wy.frozen? ⟨w.heap.size,1,none⟩=false:=Lib.frozen_of_heap b2 1
      have f2':wy.frozen? ⟨w.heap.size,2,none⟩=false:=Lib.frozen_of_heap b2 2
      have f3':wy.frozen? ⟨w.heap.size,3,none⟩=false:=Lib.frozen_of_heap b2 3
      have l2':w.heap.size < wy.heap.size:=qaa b2
      have hne2:w1.heap.size≠w.heap.size:=Nat.ne_of_gt hlt1
      have hne3:w.heap.size≠w1.heap.size:=Nat.ne_of_lt hlt1
      have HB2:=hI b2
      clear b5 b2
      obtain ⟨q,hq⟩:∃ q:Bool,decide (t.n=s.size)=q:=⟨_,rfl⟩
      have HQ:=hI hq
      clear hq
      cases q
      ·have hne:((t.n:Int) == (s.size:Int))=false:=by have:=of_decide_eq_false HQ.out;simp;omega
       go_wp2
       refine bodyPost_ret (v:=.agg (qau t (.slice Am (evA t.evs).size cm) false)) (qba (t:=2) rfl rfl ((Below.heap_alloc _ _ _ (by simpa [World.setCell] using l2')).trans (qbc HB2.out hne3))) rfl ?_
       exact TellP.alloc (qbm HB1.out HRT.out.bel HRT.out.row HQ.out.symm HTQ.out hlt1 _ _ _ _ _) _
      ·have hne:((t.n:Int) == (s.size:Int))=true:=by have:=of_decide_eq_true HQ.out;simp;omega
       go_wp2
       refine bodyPost_ret (v:=.agg (qau t (.slice Am (evA t.evs).size cm) true)) (qba (t:=2) rfl rfl ((Below.heap_alloc _ _ _ (by simpa [World.setCell] using l2')).trans (qbc HB2.out hne3))) rfl ?_
       exact TellP.alloc (qbm HB1.out HRT.out.bel HRT.out.row HQ.out.symm HTQ.out hlt1 _ _ _ _ _) _
   ·have HTQ:Hid (qdh s.data.toList=t):=by show _=_;rw [HT.out,qbs (qrl hrt)]
    obtain rfl:=hr0 hrt
    have hez:(((rtC bd:Nat):Int) != 0)=true:=by simp;omega
    have HRT:Hid (RoundT 101 w1.heap.size t Am cm w1 wy):=⟨HXY.out,HOY.out,HBY.out,HSY.out⟩
    unfold recV zR
    clear hr0 hr1 HTK1 hrt
    clear HT HS HXY HOY HBY HSY
    have b5:=HRT.out.box
    have y0':wy.cell? ⟨w1.heap.size,0,none⟩=some (.int .i64 (t.ep:Int)):=by rw [qac b5];rfl
    have y1':wy.cell? ⟨w1.heap.size,1,none⟩=some (.string t.st):=by rw [qac b5];rfl
    have y2':wy.cell? ⟨w1.heap.size,2,none⟩=some (.slice Am (evA t.evs).size cm):=by rw [qac b5];rfl
    have y3':wy.cell? ⟨w1.heap.size,3,none⟩=some (.bool false):=by rw [qac b5];rfl
    have y4':wy.frozen? ⟨w1.heap.size,3,none⟩=false:=Lib.frozen_of_heap b5 3
    have l5':w1.heap.size < wy.heap.size:=qaa b5
    have b2:wy.heap[w.heap.size]?=some (.cells (qau zT (.slice none 0 0) false) 101 (0,0)):=(HRT.out.bel.block _ hlt1).trans HW2.out
    have x0:wy.cell? ⟨w.heap.size,0,none⟩=some (.int .i64 0):=by rw [qac b2];rfl
    have x1:wy.cell? ⟨w.heap.size,1,none⟩=some (.string ⟨#[]⟩):=by rw [qac b2];rfl
    have x2:wy.cell? ⟨w.heap.size,2,none⟩=some (.slice none 0 0):=by rw [qac b2];rfl
    have x3:wy.cell? ⟨w.heap.size,3,none⟩=some (.bool false):=by rw [qac b2];rfl
    have f0':wy.frozen? ⟨w.heap.size,0,none⟩=false:=Lib.frozen_of_heap b2 0
    have f1':wy.frozen? ⟨w.heap.size,1,none⟩=false:=Lib.frozen_of_heap b2 1
    have f2':wy.frozen? ⟨w.heap.size,2,none⟩=false:=Lib.frozen_of_heap b2 2
    have f3':wy.frozen? ⟨w.heap.size,3,none⟩=false:=Lib.frozen_of_heap b2 3
    have l2':w.heap.size < wy.heap.size:=qaa b2
    have hne2:w1.heap.size≠w.heap.size:=Nat.ne_of_gt hlt1
    have hne3:w.heap.size≠w1.heap.size:=Nat.ne_of_lt hlt1
    have HB2:=hI b2
    clear b5 b2
    obtain ⟨q,hq⟩:∃ q:Bool,decide (t.n=s.size)=q:=⟨_,rfl⟩
    have HQ:=hI hq
    clear hq
    cases q
    ·have hne:((t.n:Int) == (s.size:Int))=false:=by have:=of_decide_eq_false HQ.out;simp;omega
     go_wp2
     refine bodyPost_ret (v:=.agg (qau t (.slice Am (evA t.evs).size cm) false)) (qba (t:=2) rfl rfl ((Below.heap_alloc _ _ _ (by simpa [World.setCell] using l2')).trans (qbc HB2.out hne3))) rfl ?_
     exact TellP.alloc (qbm HB1.out HRT.out.bel HRT.out.row HQ.out.symm HTQ.out hlt1 _ _ _ _ _) _
    ·have hne:((t.n:Int) == (s.size:Int))=true:=by have:=of_decide_eq_true HQ.out;simp;omega
     go_wp2
     refine bodyPost_ret (v:=.agg (qau t (.slice Am (evA t.evs).size cm) true)) (qba (t:=2) rfl rfl ((Below.heap_alloc _ _ _ (by simpa [World.setCell] using l2')).trans (qbc HB2.out hne3))) rfl ?_
     exact TellP.alloc (qbm HB1.out HRT.out.bel HRT.out.row HQ.out.symm HTQ.out hlt1 _ _ _ _ _) _
  ·have kz:decide ((i:Int) < (bs.size:Int))=false:=by simp;omega
   have hie:i=bs.size:=by omega
   have HTQ:Hid (qdh s.data.toList=t):=by
    show _=_
    rw [HT.out,List.drop_of_length_le (by simp;omega)]
    rfl
   have HRT:Hid (RoundT 101 w1.heap.size t Am cm w1 wr):=⟨HX.out,HOW.out,HB.out,HSZW.out⟩
   clear hie
   clear HT HS HX HOW HB HSZW
   have b5:=HRT.out.box
   have y0':wr.cell? ⟨w1.heap.size,0,none⟩=some (.int .i64 (t.ep:Int)):=by rw [qac b5];rfl
   have y1':wr.cell? ⟨w1.heap.size,1,none⟩=some (.string t.st):=by rw [qac b5];rfl
   have y2':wr.cell? ⟨w1.heap.size,2,none⟩=some (.slice Am (evA t.evs).size cm):=by rw [qac b5];rfl
   have y3':wr.cell? ⟨w1.heap.size,3,none⟩=some (.bool false):=by rw [qac b5];rfl
   have y4':wr.frozen? ⟨w1.heap.size,3,none⟩=false:=Lib.frozen_of_heap b5 3
   have l5':w1.heap.size < wr.heap.size:=qaa b5
   have b2:wr.heap[w.heap.size]?=some (.cells (qau zT (.slice none 0 0) false) 101 (0,0)):=(HRT.out.bel.block _ hlt1).trans HW2.out
   have x0:wr.cell? ⟨w.heap.size,0,none⟩=some (.int .i64 0):=by rw [qac b2];rfl
   have x1:wr.cell? ⟨w.heap.size,1,none⟩=some (.string ⟨#[]⟩):=by rw [qac b2];rfl
   have x2:wr.cell? ⟨w.heap.size,2,none⟩=some (.slice none 0 0):=by rw [qac b2];rfl
   have x3:wr.cell? ⟨w.heap.size,3,none⟩=some (.bool false):=by rw [qac b2];rfl
   have f0':wr.frozen? ⟨w.heap.size,0,none⟩=false:=Lib.frozen_of_heap b2 0
   have f1':wr.frozen? ⟨w.heap.size,1,none⟩=false:=Lib.frozen_of_heap b2 1
   have f2':wr.frozen? ⟨w.heap.size,2,none⟩=false:=Lib.frozen_of_heap b2 2
   have f3':wr.frozen? ⟨w.heap.size,3,none⟩=false:=Lib.frozen_of_heap b2 3
   have l2':w.heap.size < wr.heap.size:=qaa b2
   have hne2:w1.heap.size≠w.heap.size:=Nat.ne_of_gt hlt1
   have hne3:w.heap.size≠w1.heap.size:=Nat.ne_of_lt hlt1
   have HB2:=hI b2
   clear b5 b2
   obtain ⟨q,hq⟩:∃ q:Bool,decide (t.n=s.size)=q:=⟨_,rfl⟩
   have HQ:=hI hq
   clear hq
   cases q
   ·have hne:((t.n:Int) == (s.size:Int))=false:=by have:=of_decide_eq_false HQ.out;simp;omega
    go_wp2
    refine bodyPost_ret (v:=.agg (qau t (.slice Am (evA t.evs).size cm) false)) (qba (t:=2) rfl rfl (qbc HB2.out hne3)) rfl ?_
    exact qbm HB1.out HRT.out.bel HRT.out.row HQ.out.symm HTQ.out hlt1 _ _ _ _ _
   ·have hne:((t.n:Int) == (s.size:Int))=true:=by have:=of_decide_eq_true HQ.out;simp;omega
    go_wp2
    refine bodyPost_ret (v:=.agg (qau t (.slice Am (evA t.evs).size cm) true)) (qba (t:=2) rfl rfl (qbc HB2.out hne3)) rfl ?_
    exact qbm HB1.out HRT.out.bel HRT.out.row HQ.out.symm HTQ.out hlt1 _ _ _ _ _
end Go.Proofs.YtjkecckndfcbjaaGreatDoor
