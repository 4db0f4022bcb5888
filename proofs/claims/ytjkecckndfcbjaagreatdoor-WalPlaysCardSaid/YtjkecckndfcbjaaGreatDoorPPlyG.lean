/- Texts that the law leans on. -/
import Derived.Test.YtjkecckndfcbjaaGreatDoorPDoB
import Derived.Test.YtjkecckndfcbjaaGreatDoorPROpn
import Derived.Test.YtjkecckndfcbjaaGreatDoorPTelB
namespace Go.Proofs.YtjkecckndfcbjaaGreatDoor
open Go.RowKit Go.Sort Crc Nb
set_option maxRecDepth 100000
theorem qvg {x:LG×Nat} {st:ByteArray} {evs:List EV} (h:(outG x st evs).e≠0):(outG x st evs).st=⟨#[]⟩∧(outG x st evs).evs=[]:=by
 unfold outG at h ⊢
 split
 ·exact ⟨rfl,rfl⟩
 ·rename_i hx
  rw [if_neg hx] at h
  exact absurd rfl h
theorem qqq {d:DK} {f:Nat} {t:TL} (h:(qdb d f t).e≠0):(qdb d f t).st=⟨#[]⟩∧(qdb d f t).evs=[]:=by
 unfold qdb at h ⊢
 split
 ·rename_i hx
  rw [if_pos hx] at h
  exact absurd rfl h
 ·rename_i hx
  rw [if_neg hx] at h
  split
  ·exact ⟨rfl,rfl⟩
  ·rename_i hy
   rw [if_neg hy] at h
   exact qvg h
theorem openG_bad {d:DK} {x:ByteArray} (h:(qaw d x).e≠0):(qaw d x).st=⟨#[]⟩∧(qaw d x).evs=[]:=by
 unfold qaw at h ⊢
 split
 ·exact ⟨rfl,rfl⟩
 ·rename_i h1
  rw [if_neg h1] at h
  split
  ·rename_i h2
   rw [if_pos h2] at h
   exact qvg h
  ·rename_i h2
   rw [if_neg h2] at h
   split
   ·exact ⟨rfl,rfl⟩
   ·rename_i h3
    rw [if_neg h3] at h
    split
    ·rename_i h4
     rw [if_pos h4] at h
     exact qqq h
    ·rename_i h4
     rw [if_neg h4] at h
     exact qqq h
theorem qhy {W:World} {B:Nat} {A:Option Addr} {c:Nat} {evs:List EV} (h:W.ownsRow B 56 2 (.slice A (evA evs).size c) (evA evs).size (flatK qbx 2 (evA evs)).toList):RdK qbx 2 W.heap.size W A (evA evs):=by
 obtain ⟨A',c',e',hrk,-⟩:=qbo h
 injection e' with e1 e2 e3
 rw [←e1] at hrk
 exact hrk
theorem qqr {W:World} {i:Nat} {o:Obj} (h:W.heap[i]?=some o):W.drew.heap[i]?=some o:=h
def OpS (g n:Nat) (X:OG) (pv:Value) (W:World):Prop:=DAt W g X.l.d∧((X.e≠0∧pv=.pointer none)∨(X.e=0∧∃ h,pv=.pointer (some ⟨h,0,none⟩)∧n≤h∧LAt W h g X.l))
theorem OpS.below {g n:Nat} {X:OG} {pv:Value} {W W':World} (x:OpS g n X pv W) (hb:Below W.heap.size W W'):OpS g n X pv W':=by
 obtain ⟨h1,h2 | ⟨h2,h,h3,h4,h5⟩⟩:=x
 ·exact ⟨h1.below hb,Or.inl h2⟩
 ·exact ⟨h1.below hb,Or.inr ⟨h2,h,h3,h4,h5.below hb⟩⟩
theorem OpS.but {g n b:Nat} {X:OG} {pv:Value} {W W':World} (x:OpS g n X pv W) (hb:But b W W') (hg:g≠b) (hn:b < n):OpS g n X pv W':=by
 obtain ⟨h1,h2 | ⟨h2,h,h3,h4,h5⟩⟩:=x
 ·exact ⟨h1.but hb hg,Or.inl h2⟩
 ·exact ⟨h1.but hb hg,Or.inr ⟨h2,h,h3,h4,h5.but hb hg (by omega)⟩⟩
theorem OpS.mono {g n m:Nat} {X:OG} {pv:Value} {W:World} (x:OpS g n X pv W) (h:m≤n):OpS g m X pv W:=by
 obtain ⟨h1,h2 | ⟨h2,k,h3,h4,h5⟩⟩:=x
 ·exact ⟨h1,Or.inl h2⟩
 ·exact ⟨h1,Or.inr ⟨h2,k,h3,Nat.le_trans h h4,h5⟩⟩
theorem But.ofBut {w W W':World} {g b:Nat} (x:But g w W) (y:But b W W') (hb:w.heap.size≤b):But g w W' :=
 ⟨y.os.trans x.os,y.tape.trans x.tape,y.output.trans x.output,Nat.le_trans x.size y.size,fun i hi h1=>(y.block i (Nat.lt_of_lt_of_le hi x.size) (by omega)).trans (x.block i hi h1)⟩
theorem qqs {g:Nat} {d:DK} {tx:ByteArray} {w w':World} {e:Ending} (h:qri g (qaw d tx) w e w') :
 ∃ pv A c ev ops,e=.returned (.tuple #[pv,.string (qaw d tx).st,.slice A (evA (qaw d tx).evs).size c,ev])∧w'.ownsRow w.heap.size 56 2 (.slice A (evA (qaw d tx).evs).size c) (evA (qaw d tx).evs).size (flatK qbx 2 (evA (qaw d tx).evs)).toList∧ErrV w' ops ((qaw d tx).e:Int) ev∧OpS g w.heap.size (qaw d tx) pv w'∧But g w w':=by
 rcases h with ⟨h1,⟨v,ops,rfl,hv⟩,hd,hb⟩ | ⟨h1,k,v,rfl,h2,h3,h4,h5⟩
 ·obtain ⟨e1,e2⟩:=openG_bad h1
  rw [e1,e2]
  exact ⟨_,none,0,v,ops,rfl,qcv _ _,hv,⟨hd,Or.inl ⟨h1,rfl⟩⟩,hb⟩
 ·obtain ⟨A,c,rfl⟩:=qcm h4
  exact ⟨_,A,c,.nilIface,[],rfl,h4,Or.inl ⟨by rw [h1];rfl,rfl,rfl⟩,⟨h3.dsk,Or.inr ⟨h1,k,rfl,h2,h3⟩⟩,h5⟩
def PlayO (g:Nat) (X:OG) (w:World) (e:Ending) (w':World):Prop:=∃ pv,e=.returned (.tuple #[pv,rlV (rlOf X.l),.bool true])∧OpS g w.heap.size X pv w'∧But g w w'
set_option maxHeartbeats 8000000 in
theorem qoc (l:LG) (x:AC) (p0:Value) (g:Nat) (w:World) (hg:Glob w) (hd:DAt w g l.d) (hok:l.d.ok) (ho:l.d.ops≤999999980) (hk:x.k=3) :
 Calls Tryz.prog 16 #[p0,.pointer (some ⟨g,0,none⟩),rlV (rlOf l),.agg (qhm x).toArray] w (PlayO g (qaw l.d x.tx) w):=by
 have hlg:=hd.lt
 have HO:=hI (fun (W:World) (hb:Below w.heap.size w W)=>qie l.d g x.tx W (hg.below hb) (hd.below hb) hok ho)
 have HR:=hI (fun (W:World)=>qqt l.d x.tx W hok ho)
 have HSZ:Hid ((evA (qaw l.d x.tx).evs).size≤1000000):=by
  have:=(qop hok (Nat.le_refl l.d.ops) x.tx).sq
  have hs0:l.d.f0.s.size≤1000000:=by have:=hok.fit;have:=hok.room;omega
  have hs1:l.d.f1.s.size≤1000000:=by have:=hok.fit;have:=hok.room;omega
  have a1:=(qcl l.d.f0 hs0).1
  have b1:=(qcl l.d.f1 hs1).1
  have hF:∀ f t,t.evs.length≤200000→(qdb l.d f t).evs.length≤200000:=fun f t ht=>by
   unfold qdb
   split
   ·exact ht
   split
   ·exact Nat.zero_le _
   ·unfold outG
    split
    ·exact Nat.zero_le _
    ·exact ht
  show _≤_
  rw [qbu]
  unfold qaw
  split
  ·exact Nat.zero_le _
  split
  ·unfold outG
   split
   ·exact Nat.zero_le _
   ·exact Nat.zero_le _
  split
  ·exact Nat.zero_le _
  split
  ·exact Nat.le_trans (hF 0 _ a1) (by omega)
  ·exact Nat.le_trans (hF 1 _ b1) (by omega)
 have HOP:Hid (∀ W e W',qri g (qaw l.d x.tx) W e W'→∃ pv A c ev ops,e=.returned (.tuple #[pv,.string (qaw l.d x.tx).st,.slice A (evA (qaw l.d x.tx).evs).size c,ev])∧W'.ownsRow W.heap.size 56 2 (.slice A (evA (qaw l.d x.tx).evs).size c) (evA (qaw l.d x.tx).evs).size (flatK qbx 2 (evA (qaw l.d x.tx).evs)).toList∧ErrV W' ops ((qaw l.d x.tx).e:Int) ev∧OpS g W.heap.size (qaw l.d x.tx) pv W'∧But g W W'):=fun W e W' h=>qqs h
 have HGB:=hI (fun (W:World) (hb:But g w W)=>hg.butD hd hb)
 generalize qaw l.d x.tx=X at HO HR HSZ HOP ⊢
 have HR0:Hid (rlOf l=⟨rdOf l.d,l.file,l.ep,l.sq,l.shut⟩):=rfl
 unfold PlayO
 rw [HR0.out]
 obtain ⟨lx,hlx⟩:∃ y,rlOf X.l=y:=⟨_,rfl⟩
 obtain ⟨r0,hr0⟩:∃ r,rdOf l.d=r:=⟨_,rfl⟩
 unfold qjg at HR
 rw [hlx,hr0] at HR
 rw [hlx,hr0]
 clear hlx hr0 HR0 hg hd hok ho
 obtain ⟨ld,lf,lp,lq,ls⟩:=l
 dsimp only at HO HR HGB HOP ⊢
 clear ld
 obtain ⟨la,lb,lc,le,lh,lk,lR,lO,lM,lD⟩:=r0
 obtain ⟨⟨la1,lb1,lc1,le1,lh1,lk1,lR1,lO1,lM1,lD1⟩,lf1,lp1,lq1,ls1⟩:=lx
 obtain ⟨xk,⟨xe1,xe2⟩,xtx,xok,xn,xot,⟨xka,xta,xra⟩,⟨xkb,xtb,xrb⟩⟩:=x
 dsimp only at hk HO HR
 subst hk
 unfold rdV qbh at HR
 unfold qhm
 rw [qce] at HR
 rw [qce]
 rw [qce]
 dsimp only at HR ⊢
 go_enter Tryz.func16,Tryz.ntmps16
 go_wp2_with fail
 refine (HO.out _ (qab (qab (bel1 w _) _) _)).mono ?_
 rintro e w1 hx
 obtain ⟨pv,A1,c1,ev,ops,rfl,hrd1,hev1,hop1,hb1⟩:=HOP.out _ _ _ hx
 obtain ⟨q0,q1,q2⟩:=qhk w (.cells #[.string la,.string lb,.string lc,.string le,.bool lh,.bool lk,.int .i64 (lR:Int),.int .i64 (lO:Int),.int .i64 (lM:Int),.bool lD,.int .i64 (lf:Int),.int .i64 (lp:Int),.int .i64 (lq:Int),.bool ls] 41) (.cells #[.int .i64 3,.int .i64 xe1,.string xe2,.string xtx,.int .i64 xok,.int .i64 xn,.string xot,.int .i64 xka,.string xta,.bool xra,.int .i64 xkb,.string xtb,.bool xrb] 62) (.cells #[.string ⟨#[]⟩,.string ⟨#[]⟩,.string ⟨#[]⟩,.string ⟨#[]⟩,.bool false,.bool false,.int .i64 0,.int .i64 0,.int .i64 0,.bool false,.int .i64 0,.int .i64 0,.int .i64 0,.bool false] 41)
 have hsz3:(((w.alloc (.cells #[.string la,.string lb,.string lc,.string le,.bool lh,.bool lk,.int .i64 (lR:Int),.int .i64 (lO:Int),.int .i64 (lM:Int),.bool lD,.int .i64 (lf:Int),.int .i64 (lp:Int),.int .i64 (lq:Int),.bool ls] 41)).alloc (.cells #[.int .i64 3,.int .i64 xe1,.string xe2,.string xtx,.int .i64 xok,.int .i64 xn,.string xot,.int .i64 xka,.string xta,.bool xra,.int .i64 xkb,.string xtb,.bool xrb] 62)).alloc (.cells #[.string ⟨#[]⟩,.string ⟨#[]⟩,.string ⟨#[]⟩,.string ⟨#[]⟩,.bool false,.bool false,.int .i64 0,.int .i64 0,.int .i64 0,.bool false,.int .i64 0,.int .i64 0,.int .i64 0,.bool false] 41)).heap.size=w.heap.size + 3:=by simp
 have HX1:Hid (w1.heap[w.heap.size]?=some (.cells #[.string la,.string lb,.string lc,.string le,.bool lh,.bool lk,.int .i64 (lR:Int),.int .i64 (lO:Int),.int .i64 (lM:Int),.bool lD,.int .i64 (lf:Int),.int .i64 (lp:Int),.int .i64 (lq:Int),.bool ls] 41 (0,0))):=hb1.heap q0 (by omega)
 have HA1:Hid (w1.heap[w.heap.size + 1]?=some (.cells #[.int .i64 3,.int .i64 xe1,.string xe2,.string xtx,.int .i64 xok,.int .i64 xn,.string xot,.int .i64 xka,.string xta,.bool xra,.int .i64 xkb,.string xtb,.bool xrb] 62 (0,0))):=hb1.heap q1 (by omega)
 have HY1:Hid (w1.heap[w.heap.size + 2]?=some (.cells #[.string ⟨#[]⟩,.string ⟨#[]⟩,.string ⟨#[]⟩,.string ⟨#[]⟩,.bool false,.bool false,.int .i64 0,.int .i64 0,.int .i64 0,.bool false,.int .i64 0,.int .i64 0,.int .i64 0,.bool false] 41 (0,0))):=hb1.heap q2 (by omega)
 have HB1:Hid (But g w w1):=(But.of (qab (qab (bel1 w _) _) _)).trans hb1
 rw [hsz3] at hop1 hrd1
 have HS1:=hI hop1
 have HRD1:=hI hrd1
 have HV1:=hI hev1
 clear hx hop1 hrd1 hev1 hb1 q0 q1 q2 hsz3 HO HOP
 obtain ⟨p0,p1,p2,p3,p4,p5,p6,p7,p8,p9,p10,p11,p12,p13⟩:=qaf HX1.out
 obtain ⟨a0,a1,a2,a3,a4,a5,a6,a7,a8,a9,a10,a11,a12⟩:=qpr HA1.out
 go_wp2_with fail
 refine (HR.out _).mono ?_
 rintro e w2 ⟨v2,rfl,hrow2,hb2⟩
 obtain ⟨A2,c2,rfl⟩:=qcm hrow2
 have HX2:Hid (w2.heap[w.heap.size]?=some (.cells #[.string la,.string lb,.string lc,.string le,.bool lh,.bool lk,.int .i64 (lR:Int),.int .i64 (lO:Int),.int .i64 (lM:Int),.bool lD,.int .i64 (lf:Int),.int .i64 (lp:Int),.int .i64 (lq:Int),.bool ls] 41 (0,0))):=(hb2.block _ (qaa HX1.out)).trans HX1.out
 have HY2:Hid (w2.heap[w.heap.size + 2]?=some (.cells #[.string ⟨#[]⟩,.string ⟨#[]⟩,.string ⟨#[]⟩,.string ⟨#[]⟩,.bool false,.bool false,.int .i64 0,.int .i64 0,.int .i64 0,.bool false,.int .i64 0,.int .i64 0,.int .i64 0,.bool false] 41 (0,0))):=(hb2.block _ (qaa HY1.out)).trans HY1.out
 have HB2:Hid (But g w w2):=HB1.out.trans (But.of hb2)
 have HS2:=hI (HS1.out.below hb2)
 have HRA2:=hI (qat HRD1.out hb2)
 have HRB2:=hI hrow2
 have hzw1:w.heap.size + 2 < w1.heap.size:=qaa HY1.out
 have HV2:=hI (HV1.out.below hb2)
 clear hb2 hrow2 HX1 HA1 HY1 HB1 HS1 HRD1 HV1 HR p0 p1 p2 p3 p4 p5 p6 p7 p8 p9 p10 p11 p12 p13 a0 a1 a2 a3 a4 a5 a6 a7 a8 a9 a10 a11 a12
 have hz2:w.heap.size < w2.heap.size:=qaa HX2.out
 have hz3:w.heap.size + 2 < w2.heap.size:=qaa HY2.out
 obtain ⟨p0,p1,p2,p3,p4,p5,p6,p7,p8,p9,p10,p11,p12,p13⟩:=qaf HX2.out
 obtain ⟨q0,q1,q2,q3,q4,q5,q6,q7,q8,q9,q10,q11,q12,q13⟩:=qaj HX2.out
 go_wp2_with fail
 go_region
 go_upto_region 21 with fail
 generalize hw5:((((((((((((((((w2.setCell ⟨w.heap.size,0,none⟩ (.string la1)).setCell ⟨w.heap.size,1,none⟩ (.string lb1)).setCell ⟨w.heap.size,2,none⟩ (.string lc1)).setCell ⟨w.heap.size,3,none⟩ (.string le1)).setCell ⟨w.heap.size,4,none⟩ (.bool lh1)).setCell ⟨w.heap.size,5,none⟩ (.bool lk1)).setCell ⟨w.heap.size,6,none⟩ (.int .i64 (lR1:Int))).setCell ⟨w.heap.size,7,none⟩ (.int .i64 (lO1:Int))).setCell ⟨w.heap.size,8,none⟩ (.int .i64 (lM1:Int))).setCell ⟨w.heap.size,9,none⟩ (.bool lD1)).setCell ⟨w.heap.size,10,none⟩ (.int .i64 (lf1:Int))).setCell ⟨w.heap.size,11,none⟩ (.int .i64 (lp1:Int))).setCell ⟨w.heap.size,12,none⟩ (.int .i64 (lq1:Int))).setCell ⟨w.heap.size,13,none⟩ (.bool ls1))).alloc (.cells #[.string la1,.string lb1,.string lc1,.string le1,.bool lh1,.bool lk1,.int .i64 (lR1:Int),.int .i64 (lO1:Int),.int .i64 (lM1:Int),.bool lD1,.int .i64 (lf1:Int),.int .i64 (lp1:Int),.int .i64 (lq1:Int),.bool ls1] 41)).drew=w5
 have HBU:Hid (But w.heap.size w2 w5):=by rw [←hw5];exact ((qid (But.refl _ _)).alloc _).drew
 have HX5:Hid (w5.heap[w.heap.size]?=some (.cells #[.string la1,.string lb1,.string lc1,.string le1,.bool lh1,.bool lk1,.int .i64 (lR1:Int),.int .i64 (lO1:Int),.int .i64 (lM1:Int),.bool lD1,.int .i64 (lf1:Int),.int .i64 (lp1:Int),.int .i64 (lq1:Int),.bool ls1] 41 (0,0))):=by rw [←hw5];exact qqr ((Below.heap_alloc _ _ _ (qaa (qls HX2.out))).trans (qls HX2.out))
 have HY5:Hid (w5.heap[w.heap.size + 2]?=some (.cells #[.string ⟨#[]⟩,.string ⟨#[]⟩,.string ⟨#[]⟩,.string ⟨#[]⟩,.bool false,.bool false,.int .i64 0,.int .i64 0,.int .i64 0,.bool false,.int .i64 0,.int .i64 0,.int .i64 0,.bool false] 41 (0,0))):=HBU.out.heap HY2.out (by omega)
 have HS5:=hI (HS2.out.but HBU.out (by omega) (by omega))
 have HRA5:=hI (qhf HRA2.out HBU.out (by omega) (fun e=>by have:=(HRA2.out.lt _ e).1;omega))
 have HRB5:=hI (qhf HRB2.out HBU.out (by omega) (fun e=>by have:=(HRB2.out.lt _ e).1;omega))
 have HV5:=hI (HV2.out.but HBU.out (qvm HX2.out))
 have HB5:=hI (HB2.out.ofBut HBU.out (Nat.le_refl _))
 have HG5:=hI (HGB.out w5 HB5.out)
 have HSE:Hid (Calls Tryz.prog 13 #[.slice A1 (evA X.evs).size c1,.slice A2 (evA X.evs).size c2] w5 fun e w'=>e=.returned (.bool true)∧∃ n,w'=w5.drewN n):=by
  have h:=qtx A1 A2 c1 c2 (evA X.evs) (evA X.evs) _ _ w5 (qhy HRA5.out) (qhy HRB5.out) (by have:=HSZ.out;omega)
  rw [decide_eq_true rfl] at h
  exact h
 clear hw5 HBU HX2 HY2 HB2 HS2 HRA2 HRB2 HV2 HRA5 HRB5 hz2 hz3 hzw1 HGB HSZ p0 p1 p2 p3 p4 p5 p6 p7 p8 p9 p10 p11 p12 p13 q0 q1 q2 q3 q4 q5 q6 q7 q8 q9 q10 q11 q12 q13
 go_wp2_with (go_at_call 13;refine HSE.out.mono ?_;rintro e w6 ⟨rfl,n6,rfl⟩)
 have hb6:Below w5.heap.size w5 (w5.drewN n6):=qao (Below.refl _ _) n6
 generalize w5.drewN n6=w6 at hb6 ⊢
 have HX6:=hI ((hb6.block _ (qaa HX5.out)).trans HX5.out)
 have HY6:=hI ((hb6.block _ (qaa HY5.out)).trans HY5.out)
 have HS6:=hI (HS5.out.below hb6)
 have HB6:=hI (HB5.out.trans (But.of hb6))
 have HC:=hI (fun (W:World) (hb:Below w6.heap.size w6 W)=>qbt ops (X.e:Int) ev W ((HG5.out.below hb6).below hb) ((HV5.out.below hb6).below hb))
 clear hb6 HX5 HY5 HS5 HB5 HG5 HV5 HSE
 have hy6:w.heap.size + 2 < w6.heap.size:=qaa HY6.out
 obtain ⟨p0,p1,p2,p3,p4,p5,p6,p7,p8,p9,p10,p11,p12,p13⟩:=qaf HX6.out
 obtain ⟨y0,y1,y2,y3,y4,y5,y6,y7,y8,y9,y10,y11,y12,y13⟩:=qaf HY6.out
 obtain ⟨z0,z1,z2,z3,z4,z5,z6,z7,z8,z9,z10,z11,z12,z13⟩:=qaj HY6.out
 go_region_with (go_at_call 15;refine (HC.out _ (by repeat (first | exact Below.refl _ _ | refine Below.drew ?_ | refine qao ?_ _))).mono ?_;rintro e w7 ⟨rfl,hb7⟩;(have HB7:Hid (Below w6.heap.size w6 w7):=(by first | exact hb7 | exact qad (Below.drew (Below.refl _ _)) hb7 | exact qad (qao (Below.refl _ _) _) hb7));clear hb7;have HX7:=hI ((HB7.out.block _ (qaa HX6.out)).trans HX6.out);have HY7:=hI ((HB7.out.block _ (qaa HY6.out)).trans HY6.out);obtain ⟨r0,r1,r2,r3,r4,r5,r6,r7,r8,r9,r10,r11,r12,r13⟩:=qaf HX7.out;obtain ⟨u0,u1,u2,u3,u4,u5,u6,u7,u8,u9,u10,u11,u12,u13⟩:=qaf HY7.out;obtain ⟨v0,v1,v2,v3,v4,v5,v6,v7,v8,v9,v10,v11,v12,v13⟩:=qaj HY7.out)
 all_goals go_wp2
 all_goals (refine bodyPost_ret (v:=.tuple #[pv,.agg #[.string la1,.string lb1,.string lc1,.string le1,.bool lh1,.bool lk1,.int .i64 (lR1:Int),.int .i64 (lO1:Int),.int .i64 (lM1:Int),.bool lD1,.int .i64 (lf1:Int),.int .i64 (lp1:Int),.int .i64 (lq1:Int),.bool ls1],.bool true]) (by simp [results,Tryz.results16,go_sem,u0,u1,u2,u3,u4,u5,u6,u7,u8,u9,u10,u11,u12,u13]) rfl ?_)
 all_goals exact ⟨pv,rfl,((HS6.out.below HB7.out).but (qid (But.refl _ _)) (by omega) (by omega)).mono (Nat.le_add_right _ _),(HB6.out.trans (But.of HB7.out)).ofBut (qid (But.refl _ _)) (by omega)⟩
end Go.Proofs.YtjkecckndfcbjaaGreatDoor
namespace Go.Proofs.YtjkecckndfcbjaaGreatDoor
open Go.RowKit Go.Sort Crc Nb
set_option maxRecDepth 100000
def PxS (g h n:Nat) (k:Int) (pv:Value) (l':LG) (W:World):Prop:=DAt W g l'.d∧((k=3∧pv=.pointer none)∨∃ h',pv=.pointer (some ⟨h',0,none⟩)∧(h'=h∨n≤h')∧LAt W h' g l')
theorem PxS.below {g h n:Nat} {k:Int} {pv:Value} {l':LG} {W W':World} (x:PxS g h n k pv l' W) (hb:Below W.heap.size W W'):PxS g h n k pv l' W':=by
 obtain ⟨h1,h2 | ⟨h',h3,h4,h5⟩⟩:=x
 ·exact ⟨h1.below hb,Or.inl h2⟩
 ·exact ⟨h1.below hb,Or.inr ⟨h',h3,h4,h5.below hb⟩⟩
theorem PxS.but {g h n b:Nat} {k:Int} {pv:Value} {l':LG} {W W':World} (x:PxS g h n k pv l' W) (hb:But b W W') (hg:g≠b) (hh:h≠b) (hn:b < n):PxS g h n k pv l' W':=by
 obtain ⟨h1,h2 | ⟨h',h3,h4,h5⟩⟩:=x
 ·exact ⟨h1.but hb hg,Or.inl h2⟩
 ·exact ⟨h1.but hb hg,Or.inr ⟨h',h3,h4,h5.but hb hg (by omega)⟩⟩
theorem PxS.new {g h n b:Nat} {k:Int} {pv:Value} {l':LG} {W W':World} (x:PxS g h n k pv l' W) (hb:But b W W') (hw:W.heap.size≤b):PxS g h n k pv l' W':=by
 obtain ⟨h1,h2 | ⟨h',h3,h4,h5⟩⟩:=x
 ·exact ⟨h1.but hb (by have:=h1.lt;omega),Or.inl h2⟩
 ·exact ⟨h1.but hb (by have:=h1.lt;omega),Or.inr ⟨h',h3,h4,h5.but hb (by have:=h1.lt;omega) (by have:=h5.lth;omega)⟩⟩
def PlayX (o g h:Nat) (k:Int) (w:World) (e:Ending) (w':World):Prop :=
 ∃ (pv:Value) (l':LG) (na nb nc ne:ByteArray) (nh nk:Bool) (nR nO nM:Nat) (nD:Bool) (nf np nq:Nat) (ns:Bool),e=.returned (.tuple #[pv,.agg #[.string na,.string nb,.string nc,.string ne,.bool nh,.bool nk,.int .i64 (nR:Int),.int .i64 (nO:Int),.int .i64 (nM:Int),.bool nD,.int .i64 (nf:Int),.int .i64 (np:Int),.int .i64 (nq:Int),.bool ns],.bool true])∧rlOf l'=⟨⟨na,nb,nc,ne,nh,nk,nR,nO,nM,nD⟩,nf,np,nq,ns⟩∧LV (o + 3) l'∧PxS g h w.heap.size k pv l' w'∧But2 g h w w'
theorem qod {o g h:Nat} {k:Int} {pv:Value} {l':LG} {w w':World} {e:Ending} (he:e=.returned (.tuple #[pv,rlV (rlOf l'),.bool true])) (h1:LV (o + 3) l') (h2:PxS g h w.heap.size k pv l' w') (h3:But2 g h w w'):PlayX o g h k w e w' :=
 ⟨pv,l',(rlOf l').d.a,(rlOf l').d.b,(rlOf l').d.c,(rlOf l').d.e,(rlOf l').d.h,(rlOf l').d.k,(rlOf l').d.room,(rlOf l').d.ops,(rlOf l').d.arm,(rlOf l').d.dead,(rlOf l').file,(rlOf l').ep,(rlOf l').sq,(rlOf l').shut,he,rfl,h1,h2,h3⟩
theorem playX_any (o:Nat) (l:LG) (x:AC) (h g:Nat) (w:World) (hg:Glob w) (X:LAt w h g l) (hl:LV o l) (ho:o≤900000000) (hz:qhn x) :
 Calls Tryz.prog 16 #[.pointer (some ⟨h,0,none⟩),.pointer (some ⟨g,0,none⟩),rlV (rlOf l),.agg (qhm x).toArray] w (PlayX o g h x.k w):=by
 have h1:=hl.ops
 by_cases hk:x.k=0∨x.k=1∨x.k=2
 ·refine (play_any l x h g w hg X hl.ok (by omega) hl.file hl.sq hl.ep (by have:=hz.1;omega) hk).mono ?_
  rintro e w' ⟨rfl,h2,h3⟩
  exact qod rfl (actG_lv hl _ _ _) ⟨h2.dsk,Or.inr ⟨h,rfl,Or.inl rfl,h2⟩⟩ h3
 by_cases hk3:x.k=3
 ·refine (qoc l x _ g w hg X.dsk hl.ok (by omega) hk3).mono ?_
  rintro e w' ⟨pv,rfl,⟨h2,h4⟩,h3⟩
  refine qod rfl (qop hl.ok h1 x.tx) ⟨h2,?_⟩ (h3.left h)
  rcases h4 with ⟨-,rfl⟩ | ⟨-,h',rfl,h5,h6⟩
  ·exact Or.inl ⟨hk3,rfl⟩
  ·exact Or.inr ⟨h',rfl,Or.inr h5,h6⟩
 ·refine (qsa l x h g w hg X hl.ok (by omega) hz.2.2 (by omega)).mono ?_
  rintro e w' ⟨rfl,h2,h3⟩
  obtain ⟨q1,q2,-⟩:=doQ_ok hl.ok x
  exact qod rfl (hl.disk q1 (by omega)) ⟨h2.dsk,Or.inr ⟨h,rfl,Or.inl rfl,h2⟩⟩ h3
end Go.Proofs.YtjkecckndfcbjaaGreatDoor
