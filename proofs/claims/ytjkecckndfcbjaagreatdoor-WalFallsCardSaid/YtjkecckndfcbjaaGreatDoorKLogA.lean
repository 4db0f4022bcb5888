/- Texts that the law leans on. -/
import Derived.Test.YtjkecckndfcbjaaGreatDoorKWalA
namespace Go.Proofs.YtjkecckndfcbjaaGreatDoor
open Go.RowKit Go.Sort Crc Nb
set_option maxRecDepth 100000
theorem qtm {w:World} {v:Value} (h:ErrV w (if true=true then [logW] else []) (if true=true then 20 else 0) v):(∃ t u,v=.iface t u)∧ErrV w [logW] 20 v:=by
 have h':ErrV w [logW] 20 v:=h
 exact ⟨qar (qdn h' (by decide)),h'⟩
theorem qly {w:World} {v:Value} (h:ErrV w (if false=true then [logW] else []) (if false=true then 20 else 0) v):v=.nilIface:=qel h
set_option maxHeartbeats 4000000 in
theorem qrh (l:LG) (h g:Nat) (w:World) (x:LAt w h g l) (hok:l.d.ok) (ho:l.d.ops≤999999990) (hf:l.file=0∨l.file=1) :
 Calls Tryz.prog 28 #[.pointer (some ⟨h,0,none⟩)] w (LogP h g (qgo l) w):=by
 have HU:=hI (qtx l h g w x)
 have HX:=hI x
 have HSG:=hI (qot l hf)
 have HSY:=hI (fun (W:World) (hD:DAt W g l.d)=>qvb l.d g (l.file:Int) W hD hok (by omega))
 obtain ⟨q,hq⟩:∃ q,qcu l.d (l.file:Int)=q:=⟨_,rfl⟩
 rw [hq] at HSG HSY
 obtain ⟨d1,c1⟩:=q
 have hlt:=x.lth
 generalize hS:qgo l=R at HSG ⊢
 clear x hok hf hq hS
 cases hsh:l.shut
 ·rw [hsh] at HU HSG
  have HRE:Hid (R=shutG l d1 c1):=HSG.out
  rw [HRE.out]
  clear HSG HRE
  go_enter Tryz.func28,Tryz.ntmps28
  go_wp2_with (go_at_call 59;refine HU.out.mono ?_;rintro e w1 ⟨v,rfl,hv,hb⟩;obtain rfl:=qly hv;have HX1:=hI (HX.out.below hb);have HB1:=hI hb;clear hv hb)
  have HX2:=hI HX1.out.drew
  have HB2:=hI ((But2.of (g:=g) (h:=h) HB1.out).drew2)
  have HS2:=hI (HSY.out w1.drew HX2.out.dsk)
  refine qhs (S:=fun W=>W.cell? ⟨h,0,none⟩=some (.pointer (some ⟨g,0,none⟩))∧W.cell? ⟨h,1,none⟩=some (.int .i64 (l.file:Int))) (by kernel_rfl) ?_
  have hS:w1.drew.cell? ⟨h,0,none⟩=some (.pointer (some ⟨g,0,none⟩))∧w1.drew.cell? ⟨h,1,none⟩=some (.int .i64 (l.file:Int)):=⟨HX2.out.cells.1,HX2.out.cells.2.1⟩
  refine tkF 9 0 rfl rfl hS ?_
  simp only [Act.put,sA,s0,s1]
  refine tkF 10 1 rfl rfl hS ?_
  simp only [Act.put,sA,s0,s1]
  refine tkF 11 2 rfl rfl hS ?_
  simp only [Act.put,sA,s0,s1]
  refine tkF 12 3 rfl rfl hS ?_
  simp only [Act.put,sA,s0,s1]
  refine tkF 13 4 rfl rfl hS ?_
  simp only [Act.put,sA,s0,s1]
  refine tkF 14 5 rfl rfl hS ?_
  simp only [Act.put,sA,s0,s1]
  refine tkF 15 6 rfl rfl hS ?_
  simp only [Act.put,sA,s0,s1]
  refine tkF 16 7 rfl rfl hS ?_
  simp only [Act.put,sA,s0,s1]
  refine tkF 17 8 rfl rfl hS ?_
  simp only [Act.put,sA,s0,s1]
  refine rdy1 9 rfl (fun K hK=>?_)
  go_simp
  refine HS2.out.mono ?_
  rintro e w3 ⟨⟨v,rfl,hv⟩,hd3,hb3⟩
  have HX3:=hI (HX2.out.disk hb3 hd3)
  have HB3:=hI (HB2.out.trans (hb3.left h))
  have HDI:=hI (qmn { l with d:=d1 } h g c1 _ v w3 HX3.out hv)
  have hS3:w3.cell? ⟨h,0,none⟩=some (.pointer (some ⟨g,0,none⟩))∧w3.cell? ⟨h,1,none⟩=some (.int .i64 (l.file:Int)):=⟨HX3.out.cells.1,HX3.out.cells.2.1⟩
  refine hK.out _ _ hS3 (fun _=>?_)
  clear hK K hv hd3 hb3 hS
  refine rdy1 10 rfl (fun K hK=>?_)
  go_simp
  refine HDI.out.mono ?_
  rintro e w4 ⟨⟨v,ops,rfl,hv⟩,hl4,hb4⟩
  have HV:=hI hv
  have HL4:=hI hl4
  have HB4:=hI (HB3.out.trans (hb4.right g))
  have hS4:w4.cell? ⟨h,0,none⟩=some (.pointer (some ⟨g,0,none⟩))∧w4.cell? ⟨h,1,none⟩=some (.int .i64 (l.file:Int)):=⟨HL4.out.cells.1,HL4.out.cells.2.1⟩
  refine hK.out _ _ hS4 (fun _=>?_)
  clear hK K hv hl4 hb4 hS3
  refine tkF 2 11 rfl rfl hS4 ?_
  simp only [Act.put,sA,s0,s1]
  refine qhr (by kernel_rfl) ?_ _
  go_wp2
  go_ret
  exact ⟨⟨_,_,rfl,HV.out⟩,HL4.out,HB4.out⟩
 ·rw [hsh] at HU HSG
  have HRE:Hid (R=(l,20)):=HSG.out
  rw [HRE.out]
  clear HSG HRE
  go_enter Tryz.func28,Tryz.ntmps28
  go_wp2_with (go_at_call 59;refine HU.out.mono ?_;rintro e w1 ⟨v,rfl,hv,hb⟩;obtain ⟨⟨t1,u1,rfl⟩,hv1⟩:=qtm hv;have HV:=hI hv1;have HB1:=hI hb;clear hv hv1 hb)
  go_ret
  exact ⟨⟨_,_,rfl,HV.out⟩,HX.out.below HB1.out,But2.of HB1.out⟩
set_option maxHeartbeats 4000000 in
theorem qnj (l:LG) (h g:Nat) (st:ByteArray) (w:World) (hg:Glob w) (x:LAt w h g l) (hok:l.d.ok) (ho:l.d.ops≤999999990) (hf:l.file=0∨l.file=1) (hep:l.ep≤1000000) :
 Calls Tryz.prog 29 #[.pointer (some ⟨h,0,none⟩),.string st] w (LogP h g (qbt l st) w):=by
 have HU:=hI (qtx l h g w x)
 have HX:=hI x
 have HW9:=hI (fun (W:World)=>qft 9 W (by omega))
 have HLA:Hid (∀ W:World,Below w.heap.size w W→Calls Tryz.prog 37 #[.pointer (some ⟨h,0,none⟩),.int .i64 ((l.ep:Int) + 1),.string st,.slice none 0 0] W (LogP h g (layP l (l.ep + 1) st []) W)):=fun W hb =>
  qpp l h g (l.ep + 1) st none 0 #[] W (hg.below hb) (x.below hb) hok ho hf (fun h=>absurd h (Nat.lt_irrefl 0)) (by decide) (fun i hi=>absurd hi (Nat.not_lt_zero i))
 have HPG:Hid (qbt l st=if l.shut then (l,20) else if 1000000≤l.ep then (l,9) else layP l (l.ep + 1) st []):=rfl
 generalize qbt l st=R at HPG ⊢
 generalize layP l (l.ep + 1) st []=R2 at HPG HLA
 clear hok hf hg ho
 cases hsh:l.shut
 ·rw [hsh] at HU HPG
  by_cases h9:1000000≤l.ep
  ·have HRE:Hid (R=(l,9)):=by show _=_;rw [HPG.out,if_neg (by decide),if_pos h9]
   rw [HRE.out]
   have h9':(1000000:Int)≤(l.ep:Int):=by omega
   clear HPG HRE x h9
   go_enter Tryz.func29,Tryz.ntmps29
   go_wp2_with (go_at_call 59;refine HU.out.mono ?_;rintro e w1 ⟨v,rfl,hv,hb⟩;obtain rfl:=qly hv;have HX1:=hI (HX.out.below hb);have HB1:=hI hb;obtain ⟨-,-,y2,-,-⟩:=HX1.out.cells;clear hv hb)
   go_wp2_with (go_at_call 38;refine (HW9.out _).mono ?_;rintro e w3 ⟨v,rfl,hch,hb3⟩;have HCH:=hI hch;have HB3:=hI (qac HB1.out hb3);clear hch hb3)
   go_ret
   exact ⟨qmm (c:=9) (by decide) HCH.out,HX.out.below HB3.out,But2.of HB3.out⟩
  ·have HRE:Hid (R=R2):=by show _=_;rw [HPG.out,if_neg (by decide),if_neg h9]
   rw [HRE.out]
   have h9':decide ((1000000:Int)≤(l.ep:Int))=false:=decide_eq_false (by omega)
   clear HPG HRE x h9
   go_enter Tryz.func29,Tryz.ntmps29
   go_wp2_with (go_at_call 59;refine HU.out.mono ?_;rintro e w1 ⟨v,rfl,hv,hb⟩;obtain rfl:=qly hv;have HX1:=hI (HX.out.below hb);have HB1:=hI hb;obtain ⟨-,-,y2,-,-⟩:=HX1.out.cells;clear hv hb)
   have HL1:=hI (HLA.out w1 HB1.out)
   go_wp2_with (go_at_call 37;refine HL1.out.mono ?_;rintro e w4 ⟨⟨v,ops,rfl,hv⟩,hl4,hb4⟩;have HV:=hI hv;have HL4:=hI hl4;have HB4:=hI ((But2.of HB1.out).trans hb4);clear hv hl4 hb4)
   go_ret
   exact ⟨⟨_,_,rfl,HV.out⟩,HL4.out,HB4.out⟩
 ·rw [hsh] at HU HPG
  have HRE:Hid (R=(l,20)):=HPG.out
  rw [HRE.out]
  clear HPG HRE x
  go_enter Tryz.func29,Tryz.ntmps29
  go_wp2_with (go_at_call 59;refine HU.out.mono ?_;rintro e w1 ⟨v,rfl,hv,hb⟩;obtain ⟨⟨t1,u1,rfl⟩,hv1⟩:=qtm hv;have HV:=hI hv1;have HB1:=hI hb;clear hv hv1 hb)
  go_ret
  exact ⟨⟨_,_,rfl,HV.out⟩,HX.out.below HB1.out,But2.of HB1.out⟩
theorem qri (w:World) :
 Calls Tryz.prog 28 #[.pointer none] w fun e w'=>∃ v,e=.returned v∧Chain w' [logW] 1 v∧Below w.heap.size w w':=by
 have HU:=hI (qyv w)
 go_enter Tryz.func28,Tryz.ntmps28
 go_wp2_with (go_at_call 59;refine HU.out.mono ?_;rintro e w1 ⟨v,rfl,hch,hb⟩;obtain ⟨t1,u1,rfl⟩:∃ t u,v=.iface t u:=qar hch;have HV:=hI hch;have HB1:=hI hb;clear hch hb)
 go_ret
 exact ⟨_,rfl,HV.out,HB1.out⟩
set_option maxHeartbeats 8000000 in
theorem qov (l:LG) (h g:Nat) (ev:EV) (w:World) (hg:Glob w) (x:LAt w h g l) (hok:l.d.ok) (ho:l.d.ops≤999999990) (hf:l.file=0∨l.file=1) (hsq:l.sq≤1000000) (hez:ev.2.size≤1000000) :
 Calls Tryz.prog 26 #[.pointer (some ⟨h,0,none⟩),.agg #[.int .i64 ev.1,.string ev.2]] w (LogP h g (addG l ev) w):=by
 obtain ⟨kd,dt⟩:=ev
 dsimp only at hez ⊢
 have HB0:Hid (Below w.heap.size w (w.alloc (.cells #[.int .i64 kd,.string dt] 56))):=bel1 w _
 have HU:=hI (qtx l h g _ (x.below HB0.out))
 have HX:=hI x
 have HW9:=hI (fun (W:World)=>qft 9 W (by omega))
 have HGA:=hI (fun (W:World)=>qnt W)
 have hHA:h < w.heap.size:=x.lth
 have hGA:g < w.heap.size:=x.ltg
 have HAQ:=hI (qti l hf (kd,dt))
 have HGL:=hI (fun (W:World) (hb:Below w.heap.size w W)=>hg.below hb)
 generalize addG l (kd,dt)=R at HAQ ⊢
 have HOK:=hI hok
 clear x hok hf hg
 cases hsh:l.shut
 rotate_left
 ·rw [hsh] at HU
  have HRE:Hid (R=(l,20)):=by show _=_;rw [HAQ.out];unfold addM;rw [if_pos hsh]
  rw [HRE.out]
  clear HAQ HRE
  go_enter Tryz.func26,Tryz.ntmps26
  go_wp2_with (go_at_call 59;refine HU.out.mono ?_;rintro e w1 ⟨v,rfl,hv,hb⟩;obtain ⟨⟨t1,u1,rfl⟩,hv1⟩:=qtm hv;have HV:=hI hv1;have HB1:=hI (qac HB0.out hb);clear hv hv1 hb)
  go_ret
  exact ⟨⟨_,_,rfl,HV.out⟩,HX.out.below HB1.out,But2.of HB1.out⟩
 rw [hsh] at HU
 by_cases h9:1000000≤l.sq
 ·have HRE:Hid (R=(l,9)):=by show _=_;rw [HAQ.out];unfold addM;rw [if_neg (by rw [hsh];simp),if_pos h9]
  rw [HRE.out]
  have h9':(1000000:Int)≤(l.sq:Int):=by omega
  clear HAQ HRE h9
  go_enter Tryz.func26,Tryz.ntmps26
  go_wp2_with (go_at_call 59;refine HU.out.mono ?_;rintro e w1 ⟨v,rfl,hv,hb⟩;obtain rfl:=qly hv;have HB1:=hI (qac HB0.out hb);have HX1:=hI (HX.out.below HB1.out);obtain ⟨-,-,-,y3,-⟩:=HX1.out.cells;clear hv hb)
  go_wp2_with (go_at_call 38;refine (HW9.out _).mono ?_;rintro e w3 ⟨v,rfl,hch,hb3⟩;have HCH:=hI hch;have HB3:=hI (qac HB1.out hb3);clear hch hb3)
  go_ret
  exact ⟨qmm (c:=9) (by decide) HCH.out,HX.out.below HB3.out,But2.of HB3.out⟩
 have h9':decide ((1000000:Int)≤(l.sq:Int))=false:=decide_eq_false (by omega)
 have HRM:Hid (R=if recC (evR l.ep (l.sq + 1) (kd,dt))≠0 then (l,2) else
  if (appQ l.d (l.file:Int) ⟨(qak (recB (evR l.ep (l.sq + 1) (kd,dt)))).toArray⟩).2≠0 then shutG l (appQ l.d (l.file:Int) ⟨(qak (recB (evR l.ep (l.sq + 1) (kd,dt)))).toArray⟩).1 (appQ l.d (l.file:Int) ⟨(qak (recB (evR l.ep (l.sq + 1) (kd,dt)))).toArray⟩).2 else
  (⟨(appQ l.d (l.file:Int) ⟨(qak (recB (evR l.ep (l.sq + 1) (kd,dt)))).toArray⟩).1,l.file,l.ep,l.sq + 1,l.shut⟩,0)):=by
  show _=_
  rw [HAQ.out]
  unfold addM
  rw [if_neg (by rw [hsh];simp),if_neg h9]
 clear HAQ h9
 go_enter Tryz.func26,Tryz.ntmps26
 go_wp2_with (go_at_call 59;refine HU.out.mono ?_;rintro e w1 ⟨v,rfl,hv,hb⟩;obtain rfl:=qly hv;have HB1:=hI (qac HB0.out hb);have HX1:=hI (HX.out.below HB1.out);have HE1:Hid (w1.heap[w.heap.size]?=some (.cells #[.int .i64 kd,.string dt] 56 (0,0))):=(hb.block _ (by simp)).trans (qao w _);obtain ⟨y0,y1,y2,y3,-⟩:=HX1.out.cells;clear hv hb)
 have e0:w1.cell? ⟨w.heap.size,0,none⟩=some (.int .i64 kd):=by rw [qad HE1.out];rfl
 have e1:w1.cell? ⟨w.heap.size,1,none⟩=some (.string dt):=by rw [qad HE1.out];rfl
 have l1:w.heap.size < w1.heap.size:=qaa HE1.out
 have l2:h < w1.heap.size:=by omega
 obtain ⟨w2,hw2⟩:∃ W,w1.alloc (.cells #[.string ⟨#[]⟩] 9)=W:=⟨_,rfl⟩
 have HGW:Hid (Calls Tryz.prog 60 #[] w1 fun e w'=>e=.returned (.tuple #[.func (.func 86) #[] #[.pointer (some ⟨w1.heap.size,0,none⟩)],.func (.func 89) #[] #[.pointer (some ⟨w1.heap.size,0,none⟩)]])∧w'=w2):=by rw [←hw2];exact HGA.out w1
 have hb2:Below w1.heap.size w1 w2:=by rw [←hw2];exact bel1 w1 _
 have HG2:Hid (GAt w2.drew w1.heap.size ⟨#[]⟩):=by rw [←hw2];exact qao w1 _
 have HB2:=hI (qac HB1.out hb2).drew
 have HX2:=hI (HX1.out.below hb2).drew
 have HE2:Hid (w2.heap[w.heap.size]?=some (.cells #[.int .i64 kd,.string dt] 56 (0,0))):=(hb2.block _ l1).trans HE1.out
 clear hw2 hb2 y0 y1 y2 y3 e0 e1
 obtain ⟨y0,y1,y2,y3,-⟩:=HX2.out.cells
 have e0:w2.cell? ⟨w.heap.size,0,none⟩=some (.int .i64 kd):=by rw [qad HE2.out];rfl
 have e1:w2.cell? ⟨w.heap.size,1,none⟩=some (.string dt):=by rw [qad HE2.out];rfl
 have y2':w2.cell? ⟨h,2,none⟩=some (.int .i64 (l.ep:Int)):=y2
 have y3':w2.cell? ⟨h,3,none⟩=some (.int .i64 (l.sq:Int)):=y3
 clear y0 y1 y2 y3
 have hza:w1.heap.size≠g:=by omega
 have hzh:w1.heap.size≠h:=by omega
 by_cases hrc:recC (evR l.ep (l.sq + 1) (kd,dt))=0
 rotate_left
 ·have HRE:Hid (R=(l,2)):=by show _=_;rw [HRM.out,if_pos hrc]
  have HC:=hI (qfm (evR l.ep (l.sq + 1) (kd,dt)) w1.heap.size w2.drew (HGL.out _ HB2.out) hez hrc)
  unfold recV evR at HC
  dsimp only at HC
  clear HRM hrc HG2
  go_wp2_with (go_at_call 60;refine HGW.out.mono ?_;rintro _ _ ⟨rfl,rfl⟩)
  go_still_tail 12,(by kernel_rfl)
  go_wp2_with (go_at_call 86;refine HC.out.mono ?_;rintro e w3 ⟨⟨v,ops,rfl,hv⟩,hb3⟩;(have hch:=qdn hv (by decide));obtain ⟨t1,u1,rfl⟩:∃ t u,v=.iface t u:=qar hch;have HV:=hI hv;have HB3:=hI (qac HB2.out hb3);clear hv hch hb3)
  go_ret
  rw [HRE.out]
  exact ⟨⟨_,_,rfl,HV.out⟩,HX.out.below HB3.out,But2.of HB3.out⟩
 rw [if_neg (by rw [hrc];simp)] at HRM
 have hbz:(⟨(qak (recB (evR l.ep (l.sq + 1) (kd,dt)))).toArray⟩:ByteArray).size≤2000000000:=by rw [qbb];have:=qon hrc;omega
 have HC:=hI (qgm (evR l.ep (l.sq + 1) (kd,dt)) w1.heap.size ⟨#[]⟩ w2.drew (HGL.out _ HB2.out) HG2.out (by decide) hez hrc)
 rw [show (⟨#[]⟩:ByteArray) ++ ⟨(qak (recB (evR l.ep (l.sq + 1) (kd,dt)))).toArray⟩=⟨(qak (recB (evR l.ep (l.sq + 1) (kd,dt)))).toArray⟩ from qjl [] _] at HC
 generalize (⟨(qak (recB (evR l.ep (l.sq + 1) (kd,dt)))).toArray⟩:ByteArray)=bs at HC HRM hbz
 unfold recV evR at HC
 dsimp only at HC
 obtain ⟨q,hq⟩:∃ q,appQ l.d (l.file:Int) bs=q:=⟨_,rfl⟩
 have HR2:=hI (fun (W:World) (hD:DAt W g l.d)=>qna l.d g (l.file:Int) bs W hD HOK.out (by omega) hbz)
 rw [hq] at HRM HR2
 obtain ⟨d2,c2⟩:=q
 dsimp only at HRM
 clear hrc HG2 hq hbz
 go_wp2_with (go_at_call 60;refine HGW.out.mono ?_;rintro _ _ ⟨rfl,rfl⟩)
 go_still_tail 12,(by kernel_rfl)
 go_wp2_with (go_at_call 86;refine HC.out.mono ?_;rintro _ w3 ⟨rfl,hG3,hb3⟩;have HX3:=hI (HX2.out.but hb3 hza.symm hzh.symm);have HB3:=hI ((But.below hb3 HB2.out HB1.out.size HB2.out.size));have HG3:=hI hG3;clear hG3 hb3)
 obtain ⟨y0,y1,-,-,-⟩:=HX3.out.cells
 have g0:w3.cell? ⟨w1.heap.size,0,none⟩=some (.string bs):=HG3.out.cell
 have HX4:=hI HX3.out.drew
 have HB4:=hI (But2.of (g:=g) (h:=h) HB3.out.drew)
 have HGC:=hI (qmo w1.heap.size bs w3.drew HG3.out.cell)
 have HR2':=hI (HR2.out w3.drew HX4.out.dsk)
 refine wp_region_still_tail 10 (by kernel_rfl) (by kernel_rfl) ?_
 simp only [List.take_succ_cons,List.take_zero,List.drop_succ_cons,List.drop_zero]
 repeat still_step
 still_call ((HGC.out).mono (fun _ _ h=>⟨h.1,h.2.symm⟩))
 refine wpStill_nil ?_
 go_wp2_with (go_at_call 61;refine HR2'.out.mono ?_;rintro e w5 ⟨he,hd5,hb5⟩;obtain ⟨v2,rfl,hv2⟩:=qyw he;have HX5:=hI (HX4.out.disk hb5 hd5);have HB5:=hI (HB4.out.trans (hb5.left h));clear he hd5 hb5)
 rcases hv2 with ⟨rfl,rfl⟩ | ⟨hc2,⟨t2,u2,rfl⟩,hv2⟩
 rotate_left
 ·have HDI:=hI (qmn { l with d:=d2 } h g c2 [qie] (.iface t2 u2) w5 HX5.out hv2)
  have HRE:Hid (R=shutG l d2 c2):=by show _=_;rw [HRM.out,if_pos hc2]
  clear hv2 HRM hc2
  go_wp2_with (go_at_call 62;refine HDI.out.mono ?_;rintro e w6 ⟨⟨v,ops,rfl,hv⟩,hl6,hb6⟩;have HV:=hI hv;have HL6:=hI hl6;have HB6:=hI (HB5.out.trans (hb6.right g));clear hv hl6 hb6)
  go_ret
  rw [HRE.out]
  exact ⟨⟨_,_,rfl,HV.out⟩,HL6.out,HB6.out⟩
 rw [if_neg (by decide)] at HRM
 obtain ⟨y0,y1,y2,y3,-⟩:=HX5.out.cells
 have z3:=HX5.out.frozen 3
 have HLL:=hI (HX5.out.setSq (l.sq + 1))
 have HBB:=hI (HB5.out.trans (But.right ((But.refl h w5).set 3 (.int .i64 ((l.sq:Int) + 1))) g))
 go_wp2
 go_ret
 rw [HRM.out]
 exact ⟨erL_ok _,HLL.out,HBB.out⟩
end Go.Proofs.YtjkecckndfcbjaaGreatDoor
namespace Go.Proofs.YtjkecckndfcbjaaGreatDoor
open Go.RowKit Go.Sort Crc Nb
set_option maxRecDepth 100000
set_option maxHeartbeats 8000000 in
theorem qwa (s:ByteArray) (w:World) (hg:Glob w) (hs:s.size≤1000000) :
 Calls Tryz.prog 35 #[.string s] w (TellP s w):=by
 obtain ⟨i0,hi0,hz0,hz1,hz2⟩:=info_parts qty
 have HA:=hI (fAll_any s (w.alloc (.cells (qav zT (.slice none 0 0) false) 87)) hs)
 have HTK:Hid (∀ (b:List UInt8) (W:World),Below w.heap.size w W→b.length≤20000→Calls Tryz.prog 66 #[.string ⟨b.toArray⟩] W fun e w'=>(∃ r v ops,e=.returned (.tuple #[recV r,v])∧ErrV w' ops (rtC b:Int) v∧(rtC b≠0→r=zR)∧(rtC b=0→r=recO b))∧Below W.heap.size W w'):=fun b W hb hl=>by
  refine (qyp ⟨b.toArray⟩ W (hg.below hb) (by rw [qbb];omega)).mono ?_
  rintro e w' ⟨⟨r,v,ops,h1,h2,-,h3,h4⟩,hb'⟩
  exact ⟨⟨r,v,ops,h1,h2,fun h=>(h3 h).2,h4⟩,hb'⟩
 have HSZ:Hid (∀ (b:List UInt8) (W:World),b.length≤20000→Calls Tryz.prog 67 #[.string ⟨b.toArray⟩] W fun e w'=>e=.returned (.int .i64 ((qak b).length:Int))∧W=w'):=fun b W hl=>fSize_any ⟨b.toArray⟩ W (by rw [qbb];omega)
 obtain ⟨g1,g2,g3,g4⟩:=qfy s.data.toList
 have g5:=qhk s.data.toList
 have elen:s.data.toList.length=s.size:=by simp
 rw [elen] at g4 g5
 obtain ⟨bs,hbs⟩:∃ bs:Array (List UInt8),(allL s.data.toList).1.toArray=bs:=⟨_,rfl⟩
 have hbl:(allL s.data.toList).1=bs.toList:=by rw [←hbs]
 have HTE:Hid (qdb s.data.toList=qdm zT 0 (bs.toList.drop 0)):=by show _=_;rw [List.drop_zero,←hbl];rfl
 have HFW:Hid (∀ i,i < bs.size→bs[i]!.length≤20000):=fun i hi=>by
  refine g1 _ ?_
  rw [hbl,getElem!_pos bs i hi]
  exact Array.getElem_mem_toList hi
 have hbz:bs.size≤200000:=by
  have:(allL s.data.toList).1.length=bs.size:=by rw [hbl];simp
  omega
 have HSM:Hid (zT.n + ((bs.toList.drop 0).flatMap qak).length≤s.size):=by
  show _≤_
  rw [List.drop_zero,←hbl,←g2]
  show 0 + _≤_
  omega
 unfold AllF at HA
 rw [hbs] at HA
 clear g1 g2 g3 g4 g5 elen hbs hbl hg
 go_enter Tryz.func35,Tryz.ntmps35
 go_wp2_with fail
 refine HA.out.mono ?_
 rintro e w1 ⟨vB,rfl,hownB,hb1⟩
 obtain ⟨AB,cB,rfl,hrB,_⟩:=qbj hownB
 have HRB:=hI hrB
 have HB1:=hI (qac (bel1 w (.cells (qav zT (.slice none 0 0) false) 87)) hb1)
 have HW2:Hid (w1.heap[w.heap.size]?=some (.cells (qav zT (.slice none 0 0) false) 87 (0,0))):=(hb1.block _ (by simp)).trans (qao w _)
 have hlt1:w.heap.size < w1.heap.size:=by have:=hb1.size;simp at this;omega
 clear hownB hrB hb1 HA
 go_upto_region 4 with (fail)
 obtain ⟨w2,hw2⟩:∃ W,w1.alloc (.cells #[.int .i64 0,.string ⟨#[]⟩,.slice none 0 0,.bool false] 87)=W:=⟨_,rfl⟩
 have HX0:Hid (w2.heap[w1.heap.size]?=some (.cells (qav zT (.slice none 0 0) false) 87 (0,0))):=by rw [←hw2];exact qao w1 _
 have HBA:Hid (Below w1.heap.size w1 w2):=by rw [←hw2];exact bel1 w1 _
 have hsz0:w2.heap.size=w1.heap.size + 1:=by rw [←hw2];simp
 rw [hw2]
 clear hw2
 go_wp2_with fail
 go_loopw [6,18] (fun en iv wr=>∃ (i:Nat) (t:TL) (Am:Option Addr) (cm:Nat),iv=.int .i64 (i:Int)∧en=.int .i64 (t.n:Int)∧i≤bs.size∧t.evs.length≤i∧Hid (qdb s.data.toList=qdm t i (bs.toList.drop i))∧Hid (t.n + ((bs.toList.drop i).flatMap qak).length≤s.size)∧Hid (wr.heap[w1.heap.size]?=some (.cells (qav t (.slice Am (evA t.evs).size cm) false) 87 (0,0)))∧Hid (wr.ownsRow (w1.heap.size + 1) 56 2 (.slice Am (evA t.evs).size cm) (evA t.evs).size (flatK qbm 2 (evA t.evs)).toList)∧Hid (Below w1.heap.size w1 wr)∧Hid (w1.heap.size + 1≤wr.heap.size)) (fun _ i _=>bs.size - (intOf i).toNat)
 case atStart=>exact ⟨0,zT,none,0,rfl,rfl,Nat.zero_le _,Nat.le_refl _,HTE,HSM,HX0,qei _ _ _ _ _,HBA,Nat.le_of_eq hsz0.symm⟩
 case round =>
  obtain ⟨i,t,Am,cm,rfl,rfl,hi,hel,HT,HS,HX,HOW,HB,HSZW⟩:=hrel
  by_cases hlt:i < bs.size
  ·have kz:(i:Int) < (bs.size:Int):=by omega
   rw [qsn hlt] at HT HS
   obtain ⟨blk,off,rfl,hblk,f⟩:=(HRB.out.below HB.out).at_ (i:=i) hlt
   have f0:=f 0 (by omega)
   have hbl:=HFW.out i hlt
   clear f
   generalize bs[i]! = bd at f0 HT HS hbl
   simp only [Nat.add_zero,Nat.mul_one,eS,List.getElem!_cons_zero] at f0
   have HFL:Hid (t.n + (qak bd).length + ((bs.toList.drop (i + 1)).flatMap qak).length≤s.size):=by
    show _≤_
    have:=HS.out
    rw [List.flatMap_cons,List.length_append] at this
    omega
   have hfl:t.n + (qak bd).length≤1000000:=by have:=HFL.out;omega
   have HTK1:=hI (HTK.out bd wr (HB1.out.trans (HB.out.mono (Nat.le_of_lt hlt1))) hbl)
   have HSZ1:=hI (fun (W:World)=>HSZ.out bd W hbl)
   go_wp2_with fail
   refine HTK1.out.mono ?_
   rintro e wy ⟨⟨r,v,ops,rfl,hv,hr0,hr1⟩,hby⟩
   have HBY:=hI (HB.out.trans (hby.mono (by have:=HSZW.out;omega)))
   have HXY:Hid (wy.heap[w1.heap.size]?=some (.cells (qav t (.slice Am (evA t.evs).size cm) false) 87 (0,0))):=(hby.block _ (by have:=HSZW.out;omega)).trans HX.out
   have HOY:=hI (qas HOW.out hby)
   have HSY:Hid (w1.heap.size + 1≤wy.heap.size):=Nat.le_trans HSZW.out hby.size
   clear HX HOW HB HSZW hby
   by_cases hrt:rtC bd=0
   ·obtain rfl:=hr1 hrt
    rw [hrt] at hv
    obtain rfl:v=.nilIface:=qel hv
    have HRE:=hI (recO_ep hrt)
    have HN0:=hI (fun h0:i=0=>by subst h0;exact nextB_0 (t:=t) hrt)
    have HNS:=hI (fun h0:i≠0=>nextB_s (t:=t) hrt h0)
    have HWB:Hid (qjc t i bd=if i=0 then ⟨(recO bd).ep.toNat,(recO bd).st,t.evs,t.n + (qak bd).length⟩ else ⟨t.ep,t.st,t.evs ++ [((recO bd).k,(recO bd).dt)],t.n + (qak bd).length⟩):=rfl
    generalize recO bd=r at HRE HN0 HNS HWB
    obtain ⟨ep,sq,sn,k,dt,st⟩:=r
    unfold recV
    dsimp only at HRE HN0 HNS HWB ⊢
    clear hv hr0 hr1 HTK1
    have b5:=HXY.out
    have y0:wy.cell? ⟨w1.heap.size,0,none⟩=some (.int .i64 (t.ep:Int)):=by rw [qad b5];rfl
    have y1:wy.cell? ⟨w1.heap.size,1,none⟩=some (.string t.st):=by rw [qad b5];rfl
    have y2:wy.cell? ⟨w1.heap.size,2,none⟩=some (.slice Am (evA t.evs).size cm):=by rw [qad b5];rfl
    have z0:wy.frozen? ⟨w1.heap.size,0,none⟩=false:=Lib.frozen_of_heap b5 0
    have z1:wy.frozen? ⟨w1.heap.size,1,none⟩=false:=Lib.frozen_of_heap b5 1
    have z2:wy.frozen? ⟨w1.heap.size,2,none⟩=false:=Lib.frozen_of_heap b5 2
    have l5:w1.heap.size < wy.heap.size:=qaa b5
    clear b5
    have HRT:Hid (RoundT 87 w1.heap.size t Am cm w1 wy):=⟨HXY.out,HOY.out,HBY.out,HSY.out⟩
    have hes:(evA t.evs).size≤200000:=by rw [qau];omega
    by_cases h0:i=0
    ·subst h0
     have hN:=HN0.out rfl
     obtain ⟨n,rfl⟩:∃ n:Nat,ep=(n:Int):=⟨ep.toNat,by have:=HRE.out;omega⟩
     cases sn
     ·have HTQ:Hid (qdb s.data.toList=t):=by show _=_;rw [HT.out,qby hN]
      clear HWB HN0 HNS hN HRE HT HS HXY HOY HBY HSY
      have b5:=HRT.out.box
      have y0':wy.cell? ⟨w1.heap.size,0,none⟩=some (.int .i64 (t.ep:Int)):=by rw [qad b5];rfl
      have y1':wy.cell? ⟨w1.heap.size,1,none⟩=some (.string t.st):=by rw [qad b5];rfl
      have y2':wy.cell? ⟨w1.heap.size,2,none⟩=some (.slice Am (evA t.evs).size cm):=by rw [qad b5];rfl
      have y3':wy.cell? ⟨w1.heap.size,3,none⟩=some (.bool false):=by rw [qad b5];rfl
      have y4':wy.frozen? ⟨w1.heap.size,3,none⟩=false:=Lib.frozen_of_heap b5 3
      have l5':w1.heap.size < wy.heap.size:=qaa b5
      have b2:wy.heap[w.heap.size]?=some (.cells (qav zT (.slice none 0 0) false) 87 (0,0)):=(HRT.out.bel.block _ hlt1).trans HW2.out
      have x0:wy.cell? ⟨w.heap.size,0,none⟩=some (.int .i64 0):=by rw [qad b2];rfl
      have x1:wy.cell? ⟨w.heap.size,1,none⟩=some (.string ⟨#[]⟩):=by rw [qad b2];rfl
      have x2:wy.cell? ⟨w.heap.size,2,none⟩=some (.slice none 0 0):=by rw [qad b2];rfl
      have x3:wy.cell? ⟨w.heap.size,3,none⟩=some (.bool false):=by rw [qad b2];rfl
      have f0':wy.frozen? ⟨w.heap.size,0,none⟩=false:=Lib.frozen_of_heap b2 0
      have f1':wy.frozen? ⟨w.heap.size,1,none⟩=false:=Lib.frozen_of_heap b2 1
      have f2':wy.frozen? ⟨w.heap.size,2,none⟩=false:=Lib.frozen_of_heap b2 2
      have f3':wy.frozen? ⟨w.heap.size,3,none⟩=false:=Lib.frozen_of_heap b2 3
      have l2':w.heap.size < wy.heap.size:=qaa b2
      have hne2:w1.heap.size≠w.heap.size:=Nat.ne_of_gt hlt1
      have hne3:w.heap.size≠w1.heap.size:=Nat.ne_of_lt hlt1
      have HB2:=hI b2
      clear b5 b2
      obtain ⟨q,hq⟩:∃ q:Bool,decide (t.n=s.size)=q:=⟨_,rfl⟩
      have HQ:=hI hq
      clear hq
      cases q
      ·have hne:((t.n:Int) == (s.size:Int))=false:=by have:=of_decide_eq_false HQ.out;simp;omega
       go_wp2
       refine bodyPost_ret (v:=.agg (qav t (.slice Am (evA t.evs).size cm) false)) (qbk (t:=2) rfl rfl ((Below.heap_alloc _ _ _ (by simpa [World.setCell] using l2')).trans (qbe HB2.out hne3))) rfl ?_
       exact TellP.alloc (qbq HB1.out HRT.out.bel HRT.out.row HQ.out.symm HTQ.out hlt1 _ _ _ _ _) _
      ·have hne:((t.n:Int) == (s.size:Int))=true:=by have:=of_decide_eq_true HQ.out;simp;omega
       go_wp2
       refine bodyPost_ret (v:=.agg (qav t (.slice Am (evA t.evs).size cm) true)) (qbk (t:=2) rfl rfl ((Below.heap_alloc _ _ _ (by simpa [World.setCell] using l2')).trans (qbe HB2.out hne3))) rfl ?_
       exact TellP.alloc (qbq HB1.out HRT.out.bel HRT.out.row HQ.out.symm HTQ.out hlt1 _ _ _ _ _) _
     ·have HTQ:Hid (qdb s.data.toList=qdm ⟨n,st,t.evs,t.n + (qak bd).length⟩ 1 (bs.toList.drop 1)):=by
       show _=_
       rw [HT.out,qet hN,HWB.out,if_pos rfl]
       simp
      clear HWB HN0 HNS hN HRE HT HS HXY HOY HBY HSY
      go_wp2_with fail
      go_region
      go_wp2_with ((go_at_call 67;refine (HSZ1.out _).mono ?_;rintro _ wq ⟨rfl,hq⟩;have hbq:=qmp hq;clear hq))
      have HQ:=hI ((((HRT.out.first (n:=n) (st:=st) (k:=t.n + (qak bd).length)).alloc (.cells #[.int .i64 (n:Int),.int .i64 sq,.bool true,.int .i64 k,.string dt,.string st] 128)).drew).below hbq)
      clear hbq
      go_roundw
      case rel=>exact ⟨1,⟨n,st,t.evs,t.n + (qak bd).length⟩,Am,cm,by go_num,by go_num,by omega,by show t.evs.length≤1;omega,HTQ,HFL,HQ.out.box,HQ.out.row,HQ.out.bel,HQ.out.size⟩
      case measure=>simp [intOf];omega
    ·have hz:((i:Int) == 0)=false:=by simp;omega
     have hp:0 < i:=by omega
     have hN:=HNS.out h0
     cases sn
     ·by_cases h1:ep=(t.ep:Int)
      ·subst h1
       by_cases h2:sq=(i:Int)
       ·subst h2
        have HTQ:Hid (qdb s.data.toList=qdm ⟨t.ep,t.st,t.evs ++ [(k,dt)],t.n + (qak bd).length⟩ (i + 1) (bs.toList.drop (i + 1))):=by
         show _=_
         rw [HT.out,qet (by rw [hN];simp),HWB.out,if_neg h0]
        clear HWB HN0 HNS hN HRE HT HS HXY HOY HBY HSY
        have hrow:=HRT.out.row
        go_wp2_with (first | (at_builtin;refine wpList_append_own _ rfl _ _ 37 rfl (w1.heap.size + 1) 56 i0 (.agg #[.int .i64 0,.string ⟨#[]⟩]) 2 24 Tryz.underlying37 hi0 hz0 hz1 hz2 rfl (by decide) _ _ _ rfl ((hrow.alloc (.cells #[.int .i64 (t.ep:Int),.int .i64 (i:Int),.bool false,.int .i64 k,.string dt,.string st] 128)).alloc _) ⟨wy.heap.size + 1,0,none⟩ 1 1 [.int .i64 k,.string dt] rfl rfl (newF2 (wy.alloc (.cells #[.int .i64 (t.ep:Int),.int .i64 (i:Int),.bool false,.int .i64 k,.string dt,.string st] 128)) _ _ _ (by simp)) (by simp [Value.oneCell']) (by unfold maxLen;omega) (by omega) (by simp <;> omega) ?_;intro v' w4 hown' hgrow _;obtain ⟨g',cap',rfl⟩:=ownsRow_succ hown';have HQ1:=hI ((HRT.out.alloc (.cells #[.int .i64 (t.ep:Int),.int .i64 (i:Int),.bool false,.int .i64 k,.string dt,.string st] 128)).next (k:=t.n + (qak bd).length) (e:=(k,dt)) hown' hgrow);have b4:=qhy (HRT.out.alloc (.cells #[.int .i64 (t.ep:Int),.int .i64 (i:Int),.bool false,.int .i64 k,.string dt,.string st] 128)).box (HRT.out.alloc _).row (Nat.lt_succ_self _) hgrow;have y24:w4.cell? ⟨w1.heap.size,2,none⟩=some (.slice Am (evA t.evs).size cm):=(by rw [qad b4];rfl);have z24:w4.frozen? ⟨w1.heap.size,2,none⟩=false:=Lib.frozen_of_heap b4 2;clear b4) | (go_at_call 67;refine (HSZ1.out _).mono ?_;rintro _ wq ⟨rfl,hq⟩;have hbq:=qmp hq;clear hq))
        have HQ:=hI (HQ1.out.below hbq)
        clear hbq HQ1
        go_roundw
        case rel=>exact ⟨i + 1,⟨t.ep,t.st,t.evs ++ [(k,dt)],t.n + (qak bd).length⟩,_,_,by go_num,by go_num,by omega,by simp;omega,HTQ,HFL,HQ.out.box,HQ.out.row,HQ.out.bel,HQ.out.size⟩
        case measure=>simp [intOf];omega
       ·have h2':(sq != (i:Int))=true:=by simpa using h2
        have HTQ:Hid (qdb s.data.toList=t):=by show _=_;rw [HT.out,qby (by rw [hN];simp [h2])]
        clear HWB HN0 HNS hN HRE HT HS HXY HOY HBY HSY
        have b5:=HRT.out.box
        have y0':wy.cell? ⟨w1.heap.size,0,none⟩=some (.int .i64 (t.ep:Int)):=by rw [qad b5];rfl
        have y1':wy.cell? ⟨w1.heap.size,1,none⟩=some (.string t.st):=by rw [qad b5];rfl
        have y2':wy.cell? ⟨w1.heap.size,2,none⟩=some (.slice Am (evA t.evs).size cm):=by rw [qad b5];rfl
        have y3':wy.cell? ⟨w1.heap.size,3,none⟩=some (.bool false):=by rw [qad b5];rfl
        have y4':wy.frozen? ⟨w1.heap.size,3,none⟩=false:=Lib.frozen_of_heap b5 3
        have l5':w1.heap.size < wy.heap.size:=qaa b5
        have b2:wy.heap[w.heap.size]?=some (.cells (qav zT (.slice none 0 0) false) 87 (0,0)):=(HRT.out.bel.block _ hlt1).trans HW2.out
        have x0:wy.cell? ⟨w.heap.size,0,none⟩=some (.int .i64 0):=by rw [qad b2];rfl
        have x1:wy.cell? ⟨w.heap.size,1,none⟩=some (.string ⟨#[]⟩):=by rw [qad b2];rfl
        have x2:wy.cell? ⟨w.heap.size,2,none⟩=some (.slice none 0 0):=by rw [qad b2];rfl
        have x3:wy.cell? ⟨w.heap.size,3,none⟩=some (.bool false):=by rw [qad b2];rfl
        have f0':wy.frozen? ⟨w.heap.size,0,none⟩=false:=Lib.frozen_of_heap b2 0
        have f1':wy.frozen? ⟨w.heap.size,1,none⟩=false:=Lib.frozen_of_heap b2 1
        have f2':wy.frozen? ⟨w.heap.size,2,none⟩=false:=Lib.frozen_of_heap b2 2
        have f3':wy.frozen? ⟨w.heap.size,3,none⟩=false:=Lib.frozen_of_heap b2 3
        have l2':w.heap.size < wy.heap.size:=qaa b2
        have hne2:w1.heap.size≠w.heap.size:=Nat.ne_of_gt hlt1
        have hne3:w.heap.size≠w1.heap.size:=Nat.ne_of_lt hlt1
        have HB2:=hI b2
        clear b5 b2
        obtain ⟨q,hq⟩:∃ q:Bool,decide (t.n=s.size)=q:=⟨_,rfl⟩
        have HQ:=hI hq
        clear hq
        cases q
        ·have hne:((t.n:Int) == (s.size:Int))=false:=by have:=of_decide_eq_false HQ.out;simp;omega
         go_wp2
         refine bodyPost_ret (v:=.agg (qav t (.slice Am (evA t.evs).size cm) false)) (qbk (t:=2) rfl rfl ((Below.heap_alloc _ _ _ (by simpa [World.setCell] using l2')).trans (qbe HB2.out hne3))) rfl ?_
         exact TellP.alloc (qbq HB1.out HRT.out.bel HRT.out.row HQ.out.symm HTQ.out hlt1 _ _ _ _ _) _
        ·have hne:((t.n:Int) == (s.size:Int))=true:=by have:=of_decide_eq_true HQ.out;simp;omega
         go_wp2
         refine bodyPost_ret (v:=.agg (qav t (.slice Am (evA t.evs).size cm) true)) (qbk (t:=2) rfl rfl ((Below.heap_alloc _ _ _ (by simpa [World.setCell] using l2')).trans (qbe HB2.out hne3))) rfl ?_
         exact TellP.alloc (qbq HB1.out HRT.out.bel HRT.out.row HQ.out.symm HTQ.out hlt1 _ _ _ _ _) _
      ·have h1':(ep != (t.ep:Int))=true:=by simpa using h1
       have HTQ:Hid (qdb s.data.toList=t):=by show _=_;rw [HT.out,qby (by rw [hN];simp [h1])]
       clear HWB HN0 HNS hN HRE HT HS HXY HOY HBY HSY
       have b5:=HRT.out.box
       have y0':wy.cell? ⟨w1.heap.size,0,none⟩=some (.int .i64 (t.ep:Int)):=by rw [qad b5];rfl
       have y1':wy.cell? ⟨w1.heap.size,1,none⟩=some (.string t.st):=by rw [qad b5];rfl
       have y2':wy.cell? ⟨w1.heap.size,2,none⟩=some (.slice Am (evA t.evs).size cm):=by rw [qad b5];rfl
       have y3':wy.cell? ⟨w1.heap.size,3,none⟩=some (.bool false):=by rw [qad b5];rfl
       have y4':wy.frozen? ⟨w1.heap.size,3,none⟩=false:=Lib.frozen_of_heap b5 3
       have l5':w1.heap.size < wy.heap.size:=qaa b5
       have b2:wy.heap[w.heap.size]?=some (.cells (qav zT (.slice none 0 0) false) 87 (0,0)):=(HRT.out.bel.block _ hlt1).trans HW2.out
       have x0:wy.cell? ⟨w.heap.size,0,none⟩=some (.int .i64 0):=by rw [qad b2];rfl
       have x1:wy.cell? ⟨w.heap.size,1,none⟩=some (.string ⟨#[]⟩):=by rw [qad b2];rfl
       have x2:wy.cell? ⟨w.heap.size,2,none⟩=some (.slice none 0 0):=by rw [qad b2];rfl
       have x3:wy.cell? ⟨w.heap.size,3,none⟩=some (.bool false):=by rw [qad b2];rfl
       have f0':wy.frozen? ⟨w.heap.size,0,none⟩=false:=Lib.frozen_of_heap b2 0
       have f1':wy.frozen? ⟨w.heap.size,1,none⟩=false:=Lib.frozen_of_heap b2 1
       have f2':wy.frozen? ⟨w.heap.size,2,none⟩=false:=Lib.frozen_of_heap b2 2
       have f3':wy.frozen? ⟨w.heap.size,3,none⟩=false:=Lib.frozen_of_heap b2 3
       have l2':w.heap.size < wy.heap.size:=qaa b2
       have hne2:w1.heap.size≠w.heap.size:=Nat.ne_of_gt hlt1
       have hne3:w.heap.size≠w1.heap.size:=Nat.ne_of_lt hlt1
       have HB2:=hI b2
       clear b5 b2
       obtain ⟨q,hq⟩:∃ q:Bool,decide (t.n=s.size)=q:=⟨_,rfl⟩
       have HQ:=hI hq
       clear hq
       cases q
       ·have hne:((t.n:Int) == (s.size:Int))=false:=by have:=of_decide_eq_false HQ.out;simp;omega
        go_wp2
        refine bodyPost_ret (v:=.agg (qav t (.slice Am (evA t.evs).size cm) false)) (qbk (t:=2) rfl rfl ((Below.heap_alloc _ _ _ (by simpa [World.setCell] using l2')).trans (qbe HB2.out hne3))) rfl ?_
        exact TellP.alloc (qbq HB1.out HRT.out.bel HRT.out.row HQ.out.symm HTQ.out hlt1 _ _ _ _ _) _
       ·have hne:((t.n:Int) == (s.size:Int))=true:=by have:=of_decide_eq_true HQ.out;simp;omega
        go_wp2
        refine bodyPost_ret (v:=.agg (qav t (.slice Am (evA t.evs).size cm) true)) (qbk (t:=2) rfl rfl ((Below.heap_alloc _ _ _ (by simpa [World.setCell] using l2')).trans (qbe HB2.out hne3))) rfl ?_
        exact TellP.alloc (qbq HB1.out HRT.out.bel HRT.out.row HQ.out.symm HTQ.out hlt1 _ _ _ _ _) _
     ·have HTQ:Hid (qdb s.data.toList=t):=by show _=_;rw [HT.out,qby (by rw [hN];simp)]
      clear HWB HN0 HNS hN HRE HT HS HXY HOY HBY HSY
      have b5:=HRT.out.box
      have y0':wy.cell? ⟨w1.heap.size,0,none⟩=some (.int .i64 (t.ep:Int)):=by rw [qad b5];rfl
      have y1':wy.cell? ⟨w1.heap.size,1,none⟩=some (.string t.st):=by rw [qad b5];rfl
      have y2':wy.cell? ⟨w1.heap.size,2,none⟩=some (.slice Am (evA t.evs).size cm):=by rw [qad b5];rfl
      have y3':wy.cell? ⟨w1.heap.size,3,none⟩=some (.bool false):=by rw [qad b5];rfl
      have y4':wy.frozen? ⟨w1.heap.size,3,none⟩=false:=Lib.frozen_of_heap b5 3
      have l5':w1.heap.size < wy.heap.size:=qaa b5
      have b2:wy.heap[w.heap.size]?=some (.cells (qav zT (.slice none 0 0) false) 87 (0,0)):=(HRT.out.bel.block _ hlt1).trans HW2.out
      have x0:wy.cell? ⟨w.heap.size,0,none⟩=some (.int .i64 0):=by rw [qad b2];rfl
      have x1:wy.cell? ⟨w.heap.size,1,none⟩=some (.string ⟨#[]⟩):=by rw [qad b2];rfl
      have x2:wy.cell? ⟨w.heap.size,2,none⟩=some (.slice none 0 0):=by rw [qad b2];rfl
      have x3:wy.cell? ⟨w.heap.size,3,none⟩=some (.bool false):=by rw [qad b2];rfl
      have f0':wy.frozen? ⟨w.heap.size,0,none⟩=false:=Lib.frozen_of_heap b2 0
      have f1':wy.frozen? ⟨w.heap.size,1,none⟩=false:=Lib.frozen_of_heap b2 1
      have f2':wy.frozen? ⟨w.heap.size,2,none⟩=false:=Lib.frozen_of_heap b2 2
      have f3':wy.frozen? ⟨w.heap.size,3,none⟩=false:=Lib.frozen_of_heap b2 3
      have l2':w.heap.size < wy.heap.size:=qaa b2
      have hne2:w1.heap.size≠w.heap.size:=Nat.ne_of_gt hlt1
      have hne3:w.heap.size≠w1.heap.size:=Nat.ne_of_lt hlt1
      have HB2:=hI b2
      clear b5 b2
      obtain ⟨q,hq⟩:∃ q:Bool,decide (t.n=s.size)=q:=⟨_,rfl⟩
      have HQ:=hI hq
      clear hq
      cases q
      ·have hne:((t.n:Int) == (s.size:Int))=false:=by have:=of_decide_eq_false HQ.out;simp;omega
       go_wp2
       refine bodyPost_ret (v:=.agg (qav t (.slice Am (evA t.evs).size cm) false)) (qbk (t:=2) rfl rfl ((Below.heap_alloc _ _ _ (by simpa [World.setCell] using l2')).trans (qbe HB2.out hne3))) rfl ?_
       exact TellP.alloc (qbq HB1.out HRT.out.bel HRT.out.row HQ.out.symm HTQ.out hlt1 _ _ _ _ _) _
      ·have hne:((t.n:Int) == (s.size:Int))=true:=by have:=of_decide_eq_true HQ.out;simp;omega
       go_wp2
       refine bodyPost_ret (v:=.agg (qav t (.slice Am (evA t.evs).size cm) true)) (qbk (t:=2) rfl rfl ((Below.heap_alloc _ _ _ (by simpa [World.setCell] using l2')).trans (qbe HB2.out hne3))) rfl ?_
       exact TellP.alloc (qbq HB1.out HRT.out.bel HRT.out.row HQ.out.symm HTQ.out hlt1 _ _ _ _ _) _
   ·have HTQ:Hid (qdb s.data.toList=t):=by show _=_;rw [HT.out,qby (qsm hrt)]
    obtain rfl:=hr0 hrt
    obtain ⟨t1,u1,rfl⟩:∃ t u,v=.iface t u:=qar (qdn hv (by omega))
    have HRT:Hid (RoundT 87 w1.heap.size t Am cm w1 wy):=⟨HXY.out,HOY.out,HBY.out,HSY.out⟩
    unfold recV zR
    clear hv hr0 hr1 HTK1 hrt
    clear HT HS HXY HOY HBY HSY
    have b5:=HRT.out.box
    have y0':wy.cell? ⟨w1.heap.size,0,none⟩=some (.int .i64 (t.ep:Int)):=by rw [qad b5];rfl
    have y1':wy.cell? ⟨w1.heap.size,1,none⟩=some (.string t.st):=by rw [qad b5];rfl
    have y2':wy.cell? ⟨w1.heap.size,2,none⟩=some (.slice Am (evA t.evs).size cm):=by rw [qad b5];rfl
    have y3':wy.cell? ⟨w1.heap.size,3,none⟩=some (.bool false):=by rw [qad b5];rfl
    have y4':wy.frozen? ⟨w1.heap.size,3,none⟩=false:=Lib.frozen_of_heap b5 3
    have l5':w1.heap.size < wy.heap.size:=qaa b5
    have b2:wy.heap[w.heap.size]?=some (.cells (qav zT (.slice none 0 0) false) 87 (0,0)):=(HRT.out.bel.block _ hlt1).trans HW2.out
    have x0:wy.cell? ⟨w.heap.size,0,none⟩=some (.int .i64 0):=by rw [qad b2];rfl
    have x1:wy.cell? ⟨w.heap.size,1,none⟩=some (.string ⟨#[]⟩):=by rw [qad b2];rfl
    have x2:wy.cell? ⟨w.heap.size,2,none⟩=some (.slice none 0 0):=by rw [qad b2];rfl
    have x3:wy.cell? ⟨w.heap.size,3,none⟩=some (.bool false):=by rw [qad b2];rfl
    have f0':wy.frozen? ⟨w.heap.size,0,none⟩=false:=Lib.frozen_of_heap b2 0
    have f1':wy.frozen? ⟨w.heap.size,1,none⟩=false:=Lib.frozen_of_heap b2 1
    have f2':wy.frozen? ⟨w.heap.size,2,none⟩=false:=Lib.frozen_of_heap b2 2
    have f3':wy.frozen? ⟨w.heap.size,3,none⟩=false:=Lib.frozen_of_heap b2 3
    have l2':w.heap.size < wy.heap.size:=qaa b2
    have hne2:w1.heap.size≠w.heap.size:=Nat.ne_of_gt hlt1
    have hne3:w.heap.size≠w1.heap.size:=Nat.ne_of_lt hlt1
    have HB2:=hI b2
    clear b5 b2
    obtain ⟨q,hq⟩:∃ q:Bool,decide (t.n=s.size)=q:=⟨_,rfl⟩
    have HQ:=hI hq
    clear hq
    cases q
    ·have hne:((t.n:Int) == (s.size:Int))=false:=by have:=of_decide_eq_false HQ.out;simp;omega
     go_wp2
     refine bodyPost_ret (v:=.agg (qav t (.slice Am (evA t.evs).size cm) false)) (qbk (t:=2) rfl rfl ((Below.heap_alloc _ _ _ (by simpa [World.setCell] using l2')).trans (qbe HB2.out hne3))) rfl ?_
     exact TellP.alloc (qbq HB1.out HRT.out.bel HRT.out.row HQ.out.symm HTQ.out hlt1 _ _ _ _ _) _
    ·have hne:((t.n:Int) == (s.size:Int))=true:=by have:=of_decide_eq_true HQ.out;simp;omega
     go_wp2
     refine bodyPost_ret (v:=.agg (qav t (.slice Am (evA t.evs).size cm) true)) (qbk (t:=2) rfl rfl ((Below.heap_alloc _ _ _ (by simpa [World.setCell] using l2')).trans (qbe HB2.out hne3))) rfl ?_
     exact TellP.alloc (qbq HB1.out HRT.out.bel HRT.out.row HQ.out.symm HTQ.out hlt1 _ _ _ _ _) _
  ·have kz:decide ((i:Int) < (bs.size:Int))=false:=by simp;omega
   have hie:i=bs.size:=by omega
   have HTQ:Hid (qdb s.data.toList=t):=by
    show _=_
    rw [HT.out,List.drop_of_length_le (by simp;omega)]
    rfl
   have HRT:Hid (RoundT 87 w1.heap.size t Am cm w1 wr):=⟨HX.out,HOW.out,HB.out,HSZW.out⟩
   clear hie
   clear HT HS HX HOW HB HSZW
   have b5:=HRT.out.box
   have y0':wr.cell? ⟨w1.heap.size,0,none⟩=some (.int .i64 (t.ep:Int)):=by rw [qad b5];rfl
   have y1':wr.cell? ⟨w1.heap.size,1,none⟩=some (.string t.st):=by rw [qad b5];rfl
   have y2':wr.cell? ⟨w1.heap.size,2,none⟩=some (.slice Am (evA t.evs).size cm):=by rw [qad b5];rfl
   have y3':wr.cell? ⟨w1.heap.size,3,none⟩=some (.bool false):=by rw [qad b5];rfl
   have y4':wr.frozen? ⟨w1.heap.size,3,none⟩=false:=Lib.frozen_of_heap b5 3
   have l5':w1.heap.size < wr.heap.size:=qaa b5
   have b2:wr.heap[w.heap.size]?=some (.cells (qav zT (.slice none 0 0) false) 87 (0,0)):=(HRT.out.bel.block _ hlt1).trans HW2.out
   have x0:wr.cell? ⟨w.heap.size,0,none⟩=some (.int .i64 0):=by rw [qad b2];rfl
   have x1:wr.cell? ⟨w.heap.size,1,none⟩=some (.string ⟨#[]⟩):=by rw [qad b2];rfl
   have x2:wr.cell? ⟨w.heap.size,2,none⟩=some (.slice none 0 0):=by rw [qad b2];rfl
   have x3:wr.cell? ⟨w.heap.size,3,none⟩=some (.bool false):=by rw [qad b2];rfl
   have f0':wr.frozen? ⟨w.heap.size,0,none⟩=false:=Lib.frozen_of_heap b2 0
   have f1':wr.frozen? ⟨w.heap.size,1,none⟩=false:=Lib.frozen_of_heap b2 1
   have f2':wr.frozen? ⟨w.heap.size,2,none⟩=false:=Lib.frozen_of_heap b2 2
   have f3':wr.frozen? ⟨w.heap.size,3,none⟩=false:=Lib.frozen_of_heap b2 3
   have l2':w.heap.size < wr.heap.size:=qaa b2
   have hne2:w1.heap.size≠w.heap.size:=Nat.ne_of_gt hlt1
   have hne3:w.heap.size≠w1.heap.size:=Nat.ne_of_lt hlt1
   have HB2:=hI b2
   clear b5 b2
   obtain ⟨q,hq⟩:∃ q:Bool,decide (t.n=s.size)=q:=⟨_,rfl⟩
   have HQ:=hI hq
   clear hq
   cases q
   ·have hne:((t.n:Int) == (s.size:Int))=false:=by have:=of_decide_eq_false HQ.out;simp;omega
    go_wp2
    refine bodyPost_ret (v:=.agg (qav t (.slice Am (evA t.evs).size cm) false)) (qbk (t:=2) rfl rfl (qbe HB2.out hne3)) rfl ?_
    exact qbq HB1.out HRT.out.bel HRT.out.row HQ.out.symm HTQ.out hlt1 _ _ _ _ _
   ·have hne:((t.n:Int) == (s.size:Int))=true:=by have:=of_decide_eq_true HQ.out;simp;omega
    go_wp2
    refine bodyPost_ret (v:=.agg (qav t (.slice Am (evA t.evs).size cm) true)) (qbk (t:=2) rfl rfl (qbe HB2.out hne3)) rfl ?_
    exact qbq HB1.out HRT.out.bel HRT.out.row HQ.out.symm HTQ.out hlt1 _ _ _ _ _
end Go.Proofs.YtjkecckndfcbjaaGreatDoor
