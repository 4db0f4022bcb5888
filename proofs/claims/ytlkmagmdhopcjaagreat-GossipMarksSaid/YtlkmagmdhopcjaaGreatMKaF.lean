/- Texts that the law leans on. -/
import Derived.Test.YtlkmagmdhopcjaaGreatMDelA
import Derived.Test.YtlkmagmdhopcjaaGreatMOpenK
import Derived.Test.YtlkmagmdhopcjaaGreatMOpenN
import Derived.Test.YtlkmagmdhopcjaaGreatMTbH
import Derived.Test.YtlkmagmdhopcjaaGreatMOwnK
namespace Go.Proofs.YtlkmagmdhopcjaaGreat
open Go.RowKit Go.Sort Go.Lib
set_option maxRecDepth 100000
set_option maxHeartbeats 16000000 in
theorem quz (base:Int) (rs ats:Array (Int×Int)) (A1:Option Addr) (c1:Nat) (A2:Option Addr) (c2:Nat) (lo hi:Int) (atts:Array (Int×Int)) (A3:Option Addr) (c3:Nat) (w:World) (h1:RdK encR 2 w.heap.size w A1 rs) (h2:RdK qaf 2 w.heap.size w A2 ats) (h3:RdK qaf 2 w.heap.size w A3 atts)
 (hA:AddA ⟨base,rs,ats⟩ lo hi atts) (s1:rs.size≤500) (s2:ats.size + atts.size≤400) (s3:atts.size≤200) :
 Calls Tryz.prog 30 #[.agg #[.int .i64 base,.slice A1 rs.size c1,.slice A2 ats.size c2],.int .i64 lo,.int .i64 hi,.slice A3 atts.size c3] w fun e w'=>∃ v r,e=.returned (.tuple #[v,.int .i64 0])∧KnF w.heap.size w' v r∧AddR ⟨base,rs,ats⟩ lo hi atts r∧r.rs.size≤rs.size + ats.size + atts.size + 1∧Below w.heap.size w w':=by
 have HC:Hid (∀ W,Below w.heap.size w W→Calls Tryz.prog 67 #[.agg #[.int .i64 base,.slice A1 rs.size c1,.slice A2 ats.size c2]] W fun e w'=>e=.returned (.int .i64 (chkE ⟨base,rs,ats⟩))∧Below W.heap.size W w'):=fun W hb=>qge base rs ats A1 c1 A2 c2 W ((h1.below hb).mono hb.size) ((h2.below hb).mono hb.size)
 have HRi:Hid (∀ W,Below w.heap.size w W→Calls Tryz.prog 68 #[.slice A3 atts.size c3,.int .i64 lo,.int .i64 hi] W fun e w'=>e=.returned (.bool (qdg hi lo atts.toList))∧Below W.heap.size W w'):=fun W hb=>qpl A3 c3 atts lo hi W ((h3.below hb).mono hb.size) (by omega)
 rw [hA.up] at HRi
 have q0:=qoy ⟨base,rs,ats⟩
 rw [qdp.2 hA.chk] at q0
 have H1:=hI h1
 have H2:=hI h2
 have H3:=hI h3
 have HA:=hI hA
 have hset:qam rs=0:=hA.chk.rs
 have HSet:=hI hset
 have b0:0≤base:=hA.chk.b0
 have b1:base≤1000000:=hA.chk.b1
 have l0:=hA.lo0
 have l1:=hA.le
 have l2:=hA.hi1
 have HU1:Hid ((qbg ats.toList).Pairwise (· < ·)):=List.pairwise_map.2 ((qbq _ _ _).1 hA.chk.up).1
 have HU3:Hid ((qbg atts.toList).Pairwise (· < ·)):=List.pairwise_map.2 ((qbq _ _ _).1 hA.up).1
 have d1:decide (lo < 0)=false:=decide_eq_false (by omega)
 have d2:decide (hi < lo)=false:=decide_eq_false (by omega)
 have d3:decide (1000000 < hi)=false:=decide_eq_false (by omega)
 clear h1 h2 h3 hA hset
 generalize chkE ⟨base,rs,ats⟩=ce at q0 HC
 have HT:=hI (qoz w (.cells #[.int .i64 base,.slice A1 rs.size c1,.slice A2 ats.size c2] 66) (.cells #[.int .i64 0,.slice none 0 0,.slice none 0 0] 66))
 go_enter Tryz.func30,Tryz.ntmps30
 go_wp2_with fail
 refine (HC.out _ (qab (bel1 w _) _)).mono ?_
 rintro e w1 ⟨rfl,hb1⟩
 have HK1:=hI (qar HT.out.1 hb1)
 have HG1:=hI (qar HT.out.2 hb1)
 have HB1:=hI (qaa (qab (bel1 w _) _) hb1)
 clear hb1 HC HT
 go_wp2_with fail
 refine (HRi.out _ HB1.out).mono ?_
 rintro e w2 ⟨rfl,hb2⟩
 have HK2:=hI (qar HK1.out hb2)
 have HG2:=hI (qar HG1.out hb2)
 have HB2:=hI (qaa HB1.out hb2)
 clear hb2 HRi HK1 HG1 HB1
 have HCl:=hI (qfx A3 c3 atts w2 ((H3.out.below HB2.out).mono HB2.out.size) (by omega))
 go_wp2_with fail
 refine HCl.out.mono ?_
 rintro e w3 ⟨v3,rfl,hown3,hb3⟩
 have hD:=qpa (addP base rs) 70 #[.pointer (some ⟨w.heap.size,0,none⟩)] (enters_of Tryz.func70 (by kernel_rfl) rfl) v3 atts w2.heap.size w3 (fun W x hbl hsz=>by
  have hr:RdK encR 2 w2.heap.size w2 A1 rs:=(H1.out.below HB2.out).mono HB2.out.size
  have hgl:=qdf HK2.out
  have hkW:W.heap[w.heap.size]?=_:=(hbl _ hgl).trans ((hb3.block _ hgl).trans HK2.out)
  obtain ⟨⟨k0,k1,_⟩,_⟩:=blk3 hkW
  exact kAdd1_any base rs A1 c1 x w.heap.size W (qdf hkW) k0 k1 (((hr.below hb3).blocks (Nat.le_refl _) hbl).mono hsz)) hown3 hb3.size (by omega)
 have HD:=hI hD
 have HK3:=hI (qar HK2.out hb3)
 have HG3:=hI (qar HG2.out hb3)
 have HB3:=hI (qaa HB2.out hb3)
 have HL3:=hI hb3
 have hz2:w.heap.size + 1 < w2.heap.size:=qdf HG2.out
 clear hb3 hD hown3 HCl HK2 HG2
 go_wp2_with fail
 refine HD.out.mono ?_
 rintro e w4 ⟨Af,cf,rfl,hrf,nf,_,hb4⟩
 have HFe:Hid ((atts.toList.filter fun x=>!addP base rs x).toArray=qhd ⟨base,rs,ats⟩ atts):=by
  show _=_
  unfold qhd addP
  congr 2
  funext x
  rw [has_in HSet.out]
 rw [HFe.out] at hrf
 have HRF:=hI hrf
 have hb4':Below w2.heap.size w2 w4:=HL3.out.trans hb4
 have HB4:=hI (qaa HB2.out hb4')
 have HK4:=hI (show w4.heap[w.heap.size]?=_ from (hb4.block _ (by omega)).trans HK3.out)
 have HG4:=hI (show w4.heap[w.heap.size + 1]?=_ from (hb4.block _ hz2).trans HG3.out)
 obtain ⟨fr,hfr⟩:∃ fr,fr=(atts.toList.filter fun x=>!addP base rs x).toArray:=⟨_,rfl⟩
 have hfs:fr.size≤atts.size:=by
  rw [hfr,HFe.out]
  have:=List.length_filter_le (fun a:Int×Int=>!(decide (a.1≤base) || inR rs a.1)) atts.toList
  unfold qhd
  simp at this ⊢
  omega
 rw [←hfr]
 rw [←HFe.out,←hfr] at HRF
 have HFr:=hI (hfr.trans HFe.out)
 clear hfr hrf nf hb4 hb4' HD HK3 HG3 HFe HL3 HB3
 obtain ⟨⟨k0,k1,k2⟩,_⟩:=blk3 HK4.out
 have HM:=hI (qoc A2 c2 ats Af cf fr w4 ((H2.out.below HB4.out).mono HB4.out.size) HRF.out HU1.out (by omega) (by omega))
 go_wp2_with fail
 refine HM.out.mono ?_
 rintro e w5 ⟨Aa,ca,rfl,hra,na,ga,hb5⟩
 have HB5:=hI (qaa HB4.out hb5)
 have HK5:=hI (qar HK4.out hb5)
 have HG5:=hI (qar HG4.out hb5)
 have HRA:=hI hra
 have HNA:=hI na
 have HGA:Hid (∀ g off,Aa=some ⟨g,off,none⟩→w.heap.size + 1 < g):=fun g off e=>Nat.lt_of_lt_of_le (qdf HG4.out) (ga g off e)
 clear hra na ga hb5 HM k0 k1 k2 HK4 HG4 HRF
 obtain ⟨⟨k0,k1,k2⟩,_⟩:=blk3 HK5.out
 have HM2:=hI (qoc A3 c3 atts A2 c2 ats w5 ((H3.out.below HB5.out).mono HB5.out.size) ((H2.out.below HB5.out).mono HB5.out.size) HU3.out (by omega) (by omega))
 go_wp2_with fail
 refine HM2.out.mono ?_
 rintro e w6 ⟨Am,cm,rfl,hrm,nm,gm',hb6⟩
 have HB6:=hI (qaa HB5.out hb6)
 have HK6:=hI (qar HK5.out hb6)
 have HG6:=hI (qar HG5.out hb6)
 have HRA6:=hI ((HRA.out.below hb6).mono hb6.size)
 have hms:=qlz atts ats
 have hHM:Hid (qbg (mrgK atts ats).toList=(qbw (mrgK atts ats)).toList):=by show _=_;simp [qbw]
 obtain ⟨M,hM⟩:∃ M,mrgK atts ats=M:=⟨_,rfl⟩
 rw [hM] at hrm hms hHM
 rw [hM]
 have HTm:=hI (qrf Am cm M w6 hrm (by omega))
 have HMe:=hI hM
 clear hrm nm gm' hb6 HM2 k0 k1 k2 HK5 HG5 HB5 HRA hM
 go_wp2_with fail
 refine HTm.out.mono ?_
 rintro e w7 ⟨rfl,hblk7,hb7⟩
 have HB7:=hI (qaa HB6.out hb7)
 have HK7:=hI (qar HK6.out hb7)
 have HG7:=hI (qar HG6.out hb7)
 have HRA7:=hI ((HRA6.out.below hb7).mono hb7.size)
 have hMs:(qbw M).size≤400:=by rw [qgn];omega
 have HBt:=hI (qtk lo hi (some ⟨w6.heap.size,0,none⟩) M.size (qbw M) w7 (qsu hblk7) l0 (by omega) (by omega) (by omega))
 clear hblk7 hb7 HTm HK6 HG6 HB6 HRA6
 go_wp2_with fail
 refine HBt.out.mono ?_
 rintro e w8 ⟨v8,rfl,hown8,hb8⟩
 have hbl:=qpk lo hi (qbw M).toList (lo + 1)
 have hbn:=betL_ne lo hi (qbw M).toList (lo + 1)
 obtain ⟨bt,hbt⟩:∃ bt,(betL lo hi (lo + 1) (qbw M).toList).toArray=bt:=⟨_,rfl⟩
 have hbs:0 < bt.size∧bt.size≤401∧bt.size≤M.size + 1:=by
  rw [←hbt]
  have:=List.length_pos_iff.2 hbn
  have e:(qbw M).toList.length=(qbw M).size:=by simp
  have e2:=qgn M
  simp
  omega
 rw [hbt] at hown8
 have hn8:v8≠.slice none 0 0:=by
  rintro rfl
  obtain ⟨_,⟨_,h0⟩ | ⟨g,cap,cur,hv,_⟩⟩:=hown8
  ·omega
  ·cases hv
 obtain ⟨gm,cap,rfl,hgb,hlt8,hH8⟩:=qbo hown8 hn8
 have HB8:=hI (qaa HB7.out hb8)
 have HK8:=hI (qar HK7.out hb8)
 have HG8:=hI (qar HG7.out hb8)
 have HRA8:=hI (HRA7.out.below hb8)
 have hz78:=hb8.size
 have HGB:=hI hgb
 have hgm:w.heap.size + 1 < gm:=Nat.lt_of_lt_of_le (qdf HG7.out) hgb
 have HBT:=hI hbt
 have HH8:=hI hH8
 have HMS:=hI hMs
 obtain ⟨bs0,bs1,bs2⟩:=hbs
 clear hbl hbn hbt hown8 hn8 hb8 HBt HK7 HG7 HB7 HRA7 hMs hgb hH8
 go_wp2
 go_loopw [61] (fun iv wr=>MxL base bt gm w8 iv wr) (fun i _=>bt.size - (intOf i).toNat)
 case atStart=>exact ⟨0,bt,rfl,Nat.zero_le _,rfl,(fun j hj=>absurd hj (by omega)),(fun _ _=>rfl),SrtK.refl HH8.out hlt8⟩
 case round =>
  obtain ⟨k,dk,rfl,hk,hds,hlo,hhi,hS⟩:=hrel
  have HLo:=hI hlo
  have HHi:=hI hhi
  have HS:=hI hS
  have HDs:=hI hds
  clear hlo hhi hS hds
  obtain ⟨⟨kb0,kb1,kb2⟩,fb⟩:=blk3 ((HS.out.grown.block _ (qdf HK8.out) (fun e=>by injection e with e;omega)).trans HK8.out)
  by_cases hlt:k < bt.size
  ·have kz:(k:Int) < (bt.size:Int):=by omega
   have cl:=HS.out.holds.cell (i:=k) (c:=0) (by rw [HDs.out];exact hlt) (by decide)
   simp only [Nat.zero_add,Nat.add_zero] at cl
   obtain ⟨cl0,cl1⟩:=cl
   rw [HHi.out k (Nat.le_refl _)] at cl0
   obtain ⟨x,hx⟩:∃ x,bt[k]! = x:=⟨_,rfl⟩
   rw [hx] at cl0
   have HX:=hI hx
   clear hx
   simp only [encR,List.getElem!_cons_zero] at cl0
   go_wp2
   go_still_tail 13,(by kernel_rfl)
   go_wp2
   go_roundw
   case rel =>
    have hds:=HDs.out
    have hd2:dk[k]!.2=x.2:=by rw [HHi.out k (Nat.le_refl _),HX.out]
    refine ⟨k + 1,dk.setIfInBounds k (max x.1 (base + 1),dk[k]!.2),by go_num,by omega,by simpa using hds,fun j hj=>?_,fun j hj=>?_,(HS.out.putLo (by omega) _).below ((Below.refl _ _).drew)⟩
    ·by_cases e:j=k
     ·subst e
      rw [getElem!_set_same dk j _ (by omega),hd2,HX.out]
      rfl
     ·rw [getElem!_set_other dk k j _ e]
      exact HLo.out j (by omega)
    ·rw [getElem!_set_other dk k j _ (by omega)]
     exact HHi.out j (by omega)
   case measure=>simp [intOf];omega
  ·have kend:k=bt.size:=by omega
   have HDk:Hid (dk=qtj base lo hi (qbw M).toList):=by
    show _=_
    rw [moreK_eq,HBT.out]
    refine arr_ext_K (by rw [HDs.out];simp) fun j hj=>?_
    have hj':j < bt.size:=by rw [←HDs.out];exact hj
    rw [HLo.out j (by omega)]
    simp [hj']
   have hbw:Below w.heap.size w wr:=HB8.out.grown HS.out.grown HB8.out.size (fun k hk=>by injection hk with hk;omega)
   have HG9:Hid (wr.heap[w.heap.size + 1]?=_):=(HS.out.grown.block _ (qdf HG8.out) (fun e=>by injection e with e;omega)).trans HG8.out
   have HK9:Hid (wr.heap[w.heap.size]?=_):=(HS.out.grown.block _ (qdf HK8.out) (fun e=>by injection e with e;omega)).trans HK8.out
   have hrd:=RdK.of_holds HS.out.holds HS.out.lt1
   have hra9:RdK qaf 2 wr.heap.size wr Aa (mrgK ats fr):=(HRA8.out.blocks (Nat.le_refl _) (fun i hi=>HS.out.grown.block i (by omega) (fun e=>by injection e with e;have:=HGB.out;omega))).mono (Nat.le_trans hz78 HS.out.grown.size)
   have hadd:=qvs A1 c1 rs (some ⟨gm,0,none⟩) cap dk wr ((H1.out.below hbw).mono hbw.size) hrd HSet.out (by rw [HDs.out];omega)
   rw [HDs.out] at hadd
   have HAd:=hI hadd
   have HBW:=hI hbw
   have HRd:=hI hrd
   have HRA9:=hI hra9
   clear hadd hbw hrd hra9
   go_wp2_with fail
   refine HAd.out.mono ?_
   rintro e w9 ⟨v9,L,rfl,hIs,hLs,⟨Al,cll,rfl,hrl,hnl⟩,hb9⟩
   have HIs:=hI hIs
   have HLs:=hI hLs
   have HRL:=hI hrl
   have HB9:=hI (qaa HBW.out hb9)
   have HK10:=hI (qar HK9.out hb9)
   have HG10:=hI (qar HG9.out hb9)
   have HRd10:=hI ((HRd.out.below hb9).mono hb9.size)
   have HRA10:=hI ((HRA9.out.below hb9).mono hb9.size)
   clear hIs hLs hrl hnl hb9 HK9 HG9 HRA9 HRd HAd HBW HRA8 HB8 HK8 HG8 kb0 kb1 kb2 fb
   have HDS:=hI (show dk.size=bt.size from HDs.out)
   go_wp2
   go_loopw [84] (fun iv wr=>∃ j:Nat,iv=.int .i64 (j:Int)∧j≤bt.size∧Below w9.heap.size w9 wr) (fun i _=>bt.size - (intOf i).toNat)
   case atStart=>exact ⟨0,rfl,Nat.zero_le _,Below.refl _ _⟩
   case round =>
    obtain ⟨j,rfl,hj,hB⟩:=hrel
    have HB:=hI hB
    clear hB
    by_cases hlt2:j < bt.size
    ·have jz:(j:Int) < (bt.size:Int):=by omega
     have hjd:j < dk.size:=by rw [HDS.out];exact hlt2
     obtain ⟨b,off,e,_,f⟩:=(HRd10.out.below HB.out).at_ (i:=j) hjd
     injection e with e
     injection e with eb eo
     subst eb eo
     have e0:=f 0 (by omega)
     have e1:=f 1 (by omega)
     have hY:dk[j]!.1≤dk[j]!.2→qbx L dk[j]!.1=true:=fun hle=>by
      have hL:=HLs.out
      have hD:=HDS.out
      rw [HIs.out.has (by omega)]
      unfold pAdd
      rw [Bool.and_eq_true,Bool.or_eq_true,qjo]
      have a1:=HLo.out j (by omega)
      have a2:bt[j]!.2≤hi:=by
       rw [←HBT.out]
       have hm:(betL lo hi (lo + 1) (qbw M).toList).toArray[j]! ∈ betL lo hi (lo + 1) (qbw M).toList:=by
        have hj2:j < (betL lo hi (lo + 1) (qbw M).toList).toArray.size:=by rw [HBT.out];exact hlt2
        rw [getElem!_pos _ j hj2]
        simp
       exact qti lo hi _ _ _ hm
      have a3:dk[j]!.2=bt[j]!.2:=by rw [a1];rfl
      have a4:dk[j]!.1=max bt[j]!.1 (base + 1):=by rw [a1];rfl
      refine ⟨by omega,Or.inr (qtt hjd ?_)⟩
      unfold qde
      rw [decide_eq_true_iff]
      exact ⟨Int.le_refl _,hle⟩
     have HY:=hI hY
     clear hY
     generalize dk[j]! = y at e0 e1 HY
     simp only [Nat.zero_add,Nat.add_zero,encR,List.getElem!_cons_zero,List.getElem!_cons_succ] at e0 e1
     clear f
     by_cases hy:y.1≤y.2
     ·have hy':decide (y.1≤y.2)=true:=by simpa using hy
      have hh:=fun W (hb:Below wr.heap.size wr W)=>qjp Al cll L y.1 W ((HRL.out.below (qaa HB.out hb)).mono (qaa HB.out hb).size)
      rw [HY.out hy] at hh
      have HH:=hI hh
      clear hy hh HY
      go_wp2_with fail
      refine (HH.out _ (bel1 _ _)).mono ?_
      rintro e w10 ⟨rfl,hb10⟩
      go_wp2
      go_roundw
      case rel=>exact ⟨j + 1,by go_num,by omega,qaa (qab HB.out _) hb10⟩
      case measure=>simp [intOf];omega
     ·have hy':decide (y.1≤y.2)=false:=decide_eq_false hy
      clear hy HY
      go_wp2
      go_roundw
      case rel=>exact ⟨j + 1,by go_num,by omega,qab HB.out _⟩
      case measure=>simp [intOf];omega
    ·have hlt2':decide ((j:Int) < (bt.size:Int))=false:=decide_eq_false (by omega)
     have hall:=qlz ats fr
     have q4:decide ((400:Int) < ((mrgK ats fr).size:Int))=false:=decide_eq_false (by omega)
     obtain ⟨⟨k0,k1,k2⟩,_⟩:=blk3 (qar HK10.out HB.out)
     have HGW:=hI (qar HG10.out HB.out)
     have HFo:=hI (form_K base Al cll L Aa (mrgK ats fr).size ca wr ((HRL.out.below HB.out).mono HB.out.size))
     have HRAw:=hI ((HRA10.out.below HB.out).mono HB.out.size)
     go_wp2_with fail
     refine HFo.out.mono ?_
     rintro e w11 ⟨Ao,out,co,rfl,hLess,hro,hno,hfo,hb11⟩
     have HLess:=hI hLess
     have HRo:=hI hro
     have HNo:=hI hno
     have HFr2:Hid (∀ g off,Ao=some ⟨g,off,none⟩→g≠w.heap.size + 1):=fun g off e=>by
      have h1:=hfo g off e
      have h2:=qdf HGW.out
      omega
     have HFrB:Hid (∀ g off,Ao=some ⟨g,off,none⟩→w.heap.size≤g):=fun g off e=>by
      have h1:=hfo g off e
      have h2:=qdf HGW.out
      omega
     have HRA11:=hI ((HRAw.out.below hb11).mono hb11.size)
     have HB11:=hI (qaa (qaa HB9.out HB.out) hb11)
     obtain ⟨⟨m0,m1,m2⟩,f0⟩:=blk3 (qar HGW.out hb11)
     clear hLess hro hno hfo hb11 k0 k1 k2
     go_wp2
     refine bodyPost_ret (v:=.tuple #[.agg #[.int .i64 (preE L base),.slice Ao out.size co,.slice Aa (mrgK ats fr).size ca],.int .i64 0]) (by simp [results,Tryz.results30,go_sem,m0,m1,m2]) rfl ⟨_,⟨preE L base,out,mrgK ats fr⟩,rfl,?_,?_,?_,?_⟩
     ·refine ⟨Ao,co,Aa,ca,rfl,?_,?_,HNo.out,HNA.out,HFrB.out,fun g off e=>by have:=HGA.out g off e;omega⟩
      ·exact (((HRo.out.far _ _ HFr2.out).far _ _ HFr2.out).far _ _ HFr2.out).mono (by simp)
      ·have hne:∀ g off,Aa=some ⟨g,off,none⟩→g≠w.heap.size + 1:=fun g off e=>by have:=HGA.out g off e;omega
       exact (((HRA11.out.far _ _ hne).far _ _ hne).far _ _ hne).mono (by simp)
     ·have hL:=HLs.out
      have hAll:mrgK ats fr=allK ⟨base,rs,ats⟩ atts:=by unfold allK;rw [←HFr.out]
      refine ⟨L,HIs.out.congr (fun n=>?_),by omega,⟨rfl,HLess.out,hAll⟩⟩
      rw [HDk.out,←hHM.out,←HMe.out]
      exact more_p HA.out.chk l2 HA.out.up n
     ·have hL:=HLs.out
      have hset:qam L=0:=HIs.out.set (by omega)
      have hp:=(qmm hset base).1
      have hc:=(qji hset (b:=preE L base) (by omega) HLess.out).2
      show out.size≤_
      omega
     ·exact ((HB11.out.setCell (by simp) _).setCell (by simp) _).setCell (by simp) _
end Go.Proofs.YtlkmagmdhopcjaaGreat
namespace Go.Proofs.YtlkmagmdhopcjaaGreat
open Go.RowKit Go.Sort Go.Lib
set_option maxRecDepth 100000
set_option maxHeartbeats 16000000 in
theorem qtg (base:Int) (rs ats:Array (Int×Int)) (A1:Option Addr) (c1:Nat) (A2:Option Addr) (c2:Nat) (ids:Array Int) (A3:Option Addr) (c3:Nat) (w:World) (h1:RdK encR 2 w.heap.size w A1 rs) (h2:RdK qaf 2 w.heap.size w A2 ats) (h3:RdI_R w.heap.size w A3 ids)
 (hk:ChkP ⟨base,rs,ats⟩) (s1:rs.size≤500) (s3:ids.size≤100000) :
 Calls Tryz.prog 85 #[.agg #[.int .i64 base,.slice A1 rs.size c1,.slice A2 ats.size c2],.slice A3 ids.size c3] w fun e w'=>∃ v r,e=.returned v∧KnF w.heap.size w' v r∧SetR ⟨base,rs,ats⟩ ids r∧r.rs.size≤rs.size + ats.size∧Below w.heap.size w w':=by
 obtain ⟨i0,hi0,hz0,hz1,hz2⟩:=info_parts qfh
 have HC:Hid (∀ W,Below w.heap.size w W→Calls Tryz.prog 67 #[.agg #[.int .i64 base,.slice A1 rs.size c1,.slice A2 ats.size c2]] W fun e w'=>e=.returned (.int .i64 (chkE ⟨base,rs,ats⟩))∧Below W.heap.size W w'):=fun W hb=>qge base rs ats A1 c1 A2 c2 W ((h1.below hb).mono hb.size) ((h2.below hb).mono hb.size)
 have q0:=qoy ⟨base,rs,ats⟩
 rw [qdp.2 hk] at q0
 have s2:ats.size≤400:=hk.sz
 have HP:=hI hk
 have HSet:Hid (qam rs=0):=hk.rs
 have b0:0≤base:=hk.b0
 have H1:=hI h1
 have H2:=hI h2
 have H3:=hI h3
 clear h1 h2 h3 hk
 generalize chkE ⟨base,rs,ats⟩=ce at q0 HC
 have HT:=hI (three_blk w (.cells #[.int .i64 base,.slice A1 rs.size c1,.slice A2 ats.size c2] 66) (.cells #[.slice A3 ids.size c3] 26) (.cells #[.int .i64 0,.slice none 0 0,.slice none 0 0] 66))
 go_enter Tryz.func85,Tryz.ntmps85
 go_wp2_with fail
 refine (HC.out _ (qab (qab (bel1 w _) _) _)).mono ?_
 rintro e w1 ⟨rfl,hb1⟩
 have HK1:=hI (qar HT.out.1 hb1)
 have HI1:=hI (qar HT.out.2.1 hb1)
 have HG1:=hI (qar HT.out.2.2 hb1)
 have HB1:=hI (qaa (qab (qab (bel1 w _) _) _) hb1)
 have hz1':=qdf HG1.out
 have hdn:∀ W x,Below w1.heap.size w1 W→Calls Tryz.prog 168 #[.agg #[.int .i64 x.1,.int .i64 x.2],.pointer (some ⟨w.heap.size + 1,0,none⟩)] W fun e w'=>e=.returned (.bool (qfq ids x))∧Below W.heap.size W w':=fun W x hb=>by
  have hI:=qar HI1.out hb
  exact qqp ids A3 c3 x (w.heap.size + 1) W (qdf hI) (blk1 hI) (H3.out.next (qaa HB1.out hb)) (by omega)
 have HDn:=hI hdn
 clear hb1 HC HT hdn
 obtain ⟨⟨u0,u1,u2⟩,_⟩:=blk3 HK1.out
 go_wp2
 go_loopw [6,18] (fun ov iv wr=>StL ids ats w1 ov iv wr) (fun _ i _=>ats.size - (intOf i).toNat)
 case atStart=>exact ⟨0,#[],rfl,Nat.zero_le _,Nat.le_refl _,rfl,qci _ _ _ _ _,Below.refl _ _⟩
 case round =>
  clear u0 u1 u2
  obtain ⟨j,out,rfl,hj,hos,he,hown,hB⟩:=hrel
  have HE:=hI he
  have HO:=hI hown
  have HB:=hI hB
  clear he hown hB
  by_cases hlt:j < ats.size
  ·have jz:(j:Int) < (ats.size:Int):=by omega
   obtain ⟨b,off,rfl,hbl,f⟩:=(H2.out.below (qaa HB1.out HB.out)).at_ hlt
   have e0:=f 0 (by omega)
   have e1:=f 1 (by omega)
   have HD:=hI (qgd ats j hlt)
   generalize ats[j]! = x at e0 e1 HD
   simp only [Nat.add_zero,qaf,List.getElem!_cons_zero,List.getElem!_cons_succ] at e0 e1
   clear f
   have hc:=HDn.out (wr.alloc (.cells #[.int .i64 x.1,.int .i64 x.2] 29)) x (qab HB.out _)
   cases hd:qfq ids x
   ·rw [hd] at hc
    have HN:Hid (qnn ids ats.toList=out.toList ++ qnn ids (ats.toList.drop (j + 1))):=by
     show _=_
     rw [HE.out,HD.out];unfold qnn;rw [List.filter_cons,hd];rfl
    have HCd:=hI hc
    clear hd hc
    go_wp2_with fail
    refine HCd.out.mono ?_
    rintro e w4 ⟨rfl,hb4⟩
    have hB4:=qaa (bel1 wr _) hb4
    have HB4:=hI hB4
    clear hb4 HCd hB4
    go_wp2
    go_roundw
    case rel=>exact ⟨j + 1,out,by go_num,by omega,by omega,HN.out,qjn HO.out HB4.out,qaa HB.out HB4.out⟩
    case measure=>simp [intOf];omega
   ·rw [hd] at hc
    have HN:Hid (qnn ids ats.toList=(out.push (x.1,x.1)).toList ++ qnn ids (ats.toList.drop (j + 1))):=by
     show _=_
     rw [HE.out,HD.out];unfold qnn;rw [List.filter_cons,hd,Array.toList_push,List.append_assoc];rfl
    have HCd:=hI hc
    clear hd hc
    go_wp2_with fail
    refine HCd.out.mono ?_
    rintro e w4 ⟨rfl,hb4⟩
    have v0:w4.cell? ⟨wr.heap.size,0,none⟩=some (.int .i64 x.1):=(hb4.cell (p:=⟨wr.heap.size,0,none⟩) (by simp)).trans (by rw [qbb];rfl)
    have hB4:=qaa (bel1 wr _) hb4
    have HB4:=hI (qaa HB.out hB4)
    have hO4:=qjn HO.out hB4
    have hz4:w1.heap.size≤w4.heap.size:=HB4.out.size
    clear hb4 HCd hB4
    go_wp2_with (at_builtin;refine wpList_append_own _ rfl _ _ 64 rfl w1.heap.size 124 i0 (.agg #[.int .i64 0,.int .i64 0]) 2 16 Tryz.underlying64 hi0 hz0 hz1 hz2 rfl (by decide) _ _ _ rfl (hO4.alloc _) ⟨w4.heap.size,0,none⟩ 1 1 [.int .i64 x.1,.int .i64 x.1] rfl rfl (qes w4 _ _ _) (by simp [Value.oneCell']) (by unfold maxLen;omega) (by omega) (by simp;omega) ?_;intro v' w5 hown' hgrow _)
    go_roundw
    case rel=>exact ⟨j + 1,out.push (x.1,x.1),by go_num,by omega,by simp;omega,HN.out,(by rw [Array.size_push,qbm qdl];exact hown'),qrg HB4.out hz4 hO4 hgrow⟩
    case measure=>simp [intOf];omega
  ·have hlt':decide ((j:Int) < (ats.size:Int))=false:=decide_eq_false (by omega)
   have HSl:Hid (out=qxj ⟨base,rs,ats⟩ ids):=by
    show _=_
    have h:=HE.out
    rw [List.drop_of_length_le (by simp;omega)] at h
    have e:out.toList=qnn ids ats.toList:=by rw [h];simp [qnn]
    apply Array.toList_inj.1
    rw [e]
    rfl
   obtain ⟨Am,cm,rfl,hrm,_⟩:=qaw HO.out
   have hBW:=qaa HB1.out HB.out
   have HAd:=hI (qvs A1 c1 rs Am cm out wr ((H1.out.below hBW).mono hBW.size) hrm HSet.out (by omega))
   have HRm:=hI hrm
   have HBW:=hI hBW
   obtain ⟨⟨u0,u1,u2⟩,_⟩:=blk3 (qar HK1.out HB.out)
   clear hrm hBW HO
   go_wp2_with fail
   refine HAd.out.mono ?_
   rintro e w3 ⟨v3,L,rfl,hIs,hLs,⟨Al,cl,rfl,hrl,hnl⟩,hb3⟩
   have HIs:=hI hIs
   have HLs:=hI hLs
   have HRL:=hI hrl
   have HB3:=hI (qaa HB.out hb3)
   have HRm3:=hI ((HRm.out.below hb3).mono hb3.size)
   clear hIs hLs hrl hnl hb3 HAd HRm u0 u1 u2 HBW HB
   have HH:Hid (∀ x ∈ out.toList,qbx L x.1=true):=fun x hx=>by
    have hL:=HLs.out
    rw [HIs.out.has (by omega)]
    unfold pAdd
    rw [Bool.and_eq_true,Bool.or_eq_true,qjo]
    rw [HSl.out] at hx
    obtain ⟨a,ha,rfl⟩:=List.mem_map.1 (show x ∈ List.map _ _ from hx)
    have hr:=((qbq _ _ _).1 HP.out.up).2 a (List.mem_filter.1 ha).1
    have hb:=hr.1
    have hb2:=hr.2.1
    simp only at hb hb2
    obtain ⟨i,hi,hie⟩:=List.mem_iff_getElem.1 hx
    have hi':i < out.size:=by rw [HSl.out];simpa [qxj] using hi
    refine ⟨⟨by show 1≤a.1;omega,hb2⟩,Or.inr (qtt hi' ?_)⟩
    have e:out[i]! = (a.1,a.1):=by
     rw [getElem!_pos out i hi']
     have:out.toList[i]'(by simpa using hi')=(a.1,a.1):=by
      have e2:out.toList=(qxj ⟨base,rs,ats⟩ ids).toList:=by rw [HSl.out]
      rw [List.getElem_of_eq e2,hie]
     simpa using this
    rw [e]
    unfold qde
    simp
   have hSd:∀ B v W,w3.heap.size≤B→Below w1.heap.size w1 W→W.ownsRow B 29 2 v ats.size (flatK qaf 2 ats).toList→B≤W.heap.size→Calls Tryz.prog 69 #[v,.func (.func 168) #[] #[.pointer (some ⟨w.heap.size + 1,0,none⟩)]] W fun e w'=>∃ A c,e=.returned (.slice A (qgm ⟨base,rs,ats⟩ ids).size c)∧RdK qaf 2 w'.heap.size w' A (qgm ⟨base,rs,ats⟩ ids)∧(A=none→c=0)∧(∀ g off,A=some ⟨g,off,none⟩→B≤g)∧Below B W w':=fun B v W hzB hb hown hz =>
    qpa (qfq ids) 168 #[.pointer (some ⟨w.heap.size + 1,0,none⟩)] (enters_of Tryz.func168 (by kernel_rfl) rfl) v ats B W (fun W' x hbl hsz=>by
     have hz3:=HB3.out.size
     have hI:W'.heap[w.heap.size + 1]?=_:=(hbl _ (by omega)).trans (qar HI1.out hb)
     refine qqp ids A3 c3 x (w.heap.size + 1) W' (qdf hI) (blk1 hI) (fun h0=>?_) (by omega)
     obtain ⟨b,off,e,hl,hc⟩:=H3.out.next HB1.out h0
     exact ⟨b,off,e,by omega,fun t ht=>(World.cell?_of_block (a:=⟨b,off + t,none⟩) (hbl b (by omega))).trans ((hb.cell (p:=⟨b,off + t,none⟩) hl).trans (hc t ht))⟩) hown hz (by omega)
   have HSd:=hI hSd
   clear hSd
   obtain ⟨⟨u0,u1,u2⟩,_⟩:=blk3 (qar HK1.out HB3.out)
   by_cases hm:0 < out.size
   ·have q5:decide ((0:Int) < (out.size:Int))=true:=decide_eq_true (by omega)
    obtain ⟨b,off,rfl,hbl,f⟩:=HRm3.out.at_ (i:=0) hm
    have e0:=f 0 (by omega)
    have hh:=HH.out out[0]! (by rw [getElem!_pos out 0 hm];simp)
    generalize out[0]! = y at e0 hh
    simp only [Nat.zero_mul,Nat.add_zero,encR,List.getElem!_cons_zero] at e0
    have hg:=qjp Al cl L y.1 w3 HRL.out
    rw [hh] at hg
    have HG:=hI hg
    clear f hh hg
    go_wp2_with fail
    refine HG.out.mono ?_
    rintro e w5 ⟨rfl,hb5⟩
    have HB5:=hI hb5
    clear hb5 HG e0 u0 u1 u2
    obtain ⟨⟨u0,u1,u2⟩,_⟩:=blk3 (qar (qar HK1.out HB3.out) HB5.out)
    have HG5:=hI (qar (qar HG1.out HB3.out) HB5.out)
    have HB15:=hI (qaa HB3.out HB5.out)
    have KS:Hid (∀ W,Below w5.heap.size w5 W→W.cell? ⟨w.heap.size,0,none⟩=some (.int .i64 base)∧W.cell? ⟨w.heap.size,2,none⟩=some (.slice A2 ats.size c2)):=fun W hb=>by
     obtain ⟨⟨p0,p1,p2⟩,_⟩:=blk3 (qar (qar (qar HK1.out HB3.out) HB5.out) hb)
     exact ⟨p0,p2⟩
    have KT:Hid (∀ W a b c,Below w5.heap.size w5 W→(((W.setCell ⟨w.heap.size + 1 + 1,0,none⟩ a).setCell ⟨w.heap.size + 1 + 1,1,none⟩ b).setCell ⟨w.heap.size + 1 + 1,2,none⟩ c).cell? ⟨w.heap.size,0,none⟩=some (.int .i64 base)∧(((W.setCell ⟨w.heap.size + 1 + 1,0,none⟩ a).setCell ⟨w.heap.size + 1 + 1,1,none⟩ b).setCell ⟨w.heap.size + 1 + 1,2,none⟩ c).cell? ⟨w.heap.size,2,none⟩=some (.slice A2 ats.size c2)):=fun W a b c hb=>by
     obtain ⟨p0,p2⟩:=KS.out W hb
     have hne:∀ i j,(⟨w.heap.size + 1 + 1,i,none⟩:Addr).block≠(⟨w.heap.size,j,none⟩:Addr).block:=fun i j=>by show w.heap.size + 1 + 1≠w.heap.size;omega
     exact ⟨by rw [World.cell?_setCell_far _ _ _ _ (hne _ _),World.cell?_setCell_far _ _ _ _ (hne _ _),World.cell?_setCell_far _ _ _ _ (hne _ _)];exact p0,by rw [World.cell?_setCell_far _ _ _ _ (hne _ _),World.cell?_setCell_far _ _ _ _ (hne _ _),World.cell?_setCell_far _ _ _ _ (hne _ _)];exact p2⟩
    have HCl:Hid (∀ W,Below w5.heap.size w5 W→Calls Tryz.prog 65 #[.slice A2 ats.size c2] W fun e w'=>∃ v,e=.returned v∧w'.ownsRow w5.heap.size 29 2 v ats.size (flatK qaf 2 ats).toList∧Below w5.heap.size w5 w'):=fun W hb=>(qfx A2 c2 ats W ((H2.out.below (qaa HB1.out (qaa HB15.out hb))).mono (qaa HB1.out (qaa HB15.out hb)).size) (by omega)).mono fun e w' ⟨v,he,ho,hb'⟩=>⟨v,he,qbs ho hb.size,qaa hb hb'⟩
    have HDl:Hid (∀ W v,Below w5.heap.size w5 W→W.ownsRow w5.heap.size 29 2 v ats.size (flatK qaf 2 ats).toList→Calls Tryz.prog 69 #[v,.func (.func 168) #[] #[.pointer (some ⟨w.heap.size + 1,0,none⟩)]] W fun e w'=>∃ A c,e=.returned (.slice A (qgm ⟨base,rs,ats⟩ ids).size c)∧RdK qaf 2 w'.heap.size w' A (qgm ⟨base,rs,ats⟩ ids)∧(A=none→c=0)∧(∀ g off,A=some ⟨g,off,none⟩→w5.heap.size≤g)∧Below w5.heap.size w5 w'):=fun W v hb ho=>(HSd.out w5.heap.size v W HB5.out.size (qaa HB15.out hb) ho hb.size).mono fun e w' ⟨A,c,he,hr,hn,hf,hb'⟩=>⟨A,c,he,hr,hn,hf,hb.trans hb'⟩
    have HFm:Hid (∀ W A n c,Below w5.heap.size w5 W→Calls Tryz.prog 76 #[.int .i64 base,.slice Al L.size cl,.slice A n c] W fun e w'=>∃ Ao out co,e=.returned (.agg #[.int .i64 (preE L base),.slice Ao out.size co,.slice A n c])∧LessE L (1,preE L base) out∧RdK encR 2 w'.heap.size w' Ao out∧(Ao=none→co=0)∧(∀ g off,Ao=some ⟨g,off,none⟩→w5.heap.size≤g)∧Below W.heap.size W w'):=fun W A n c hb=>(form_K base Al cl L A n c W ((HRL.out.below (qaa HB5.out hb)).mono (qaa HB5.out hb).size)).mono fun e w' ⟨Ao,o,co,he,h1,h2,h3,h4,h5⟩=>⟨Ao,o,co,he,h1,h2,h3,(fun g off e=>Nat.le_trans hb.size (h4 g off e)),h5⟩
    have hb0:Below w5.heap.size w5 w5:=Below.refl _ _
    go_wp2_with fail
    go_region_held3 (fun W=>W.cell? ⟨w.heap.size,0,none⟩=some (.int .i64 base)∧W.cell? ⟨w.heap.size,2,none⟩=some (.slice A2 ats.size c2)) (first | exact KS.out _ (by assumption) | exact KS.out _ (Below.drew (by assumption)) | exact KT.out _ _ _ _ (by assumption) | go_keep)
     (first
       | (go_at_call 65;((with_reducible refine (HCl.out _ (by first | assumption | exact Below.drew (by assumption))).mono ?_);rintro e wa ⟨va,rfl,hoa,hba⟩;have HOa:=hI hoa;clear hoa))
       | (go_at_call 69;((with_reducible refine (HDl.out _ _ (by first | assumption | exact Below.drew (by assumption)) (by first | exact HOa.out | exact HOa.out.drew)).mono ?_);rintro e wb ⟨Ab,cb,rfl,hrb,hnb,hfb,hbb⟩;have HRb:=hI hrb;have HNb:=hI hnb;have HFb:=hI hfb;clear hrb hnb hfb))
       | (go_at_call 76;((with_reducible refine (HFm.out _ _ _ _ (by first | assumption | exact Below.drew (by assumption))).mono ?_);rintro e wd ⟨Ao,out2,co,rfl,hLess,hro,hno,hfo,hbd⟩;have HLess:=hI hLess;have HRo:=hI hro;have HNo:=hI hno;have HFo:=hI hfo;have HBd:Hid (Below wb.heap.size wb wd):=hbd;have hbw:Below w5.heap.size w5 wd:=qaa hbb hbd;obtain ⟨⟨m0,m1,m2⟩,f0⟩:=blk3 (qar HG5.out hbw);clear hLess hro hno hfo hbd)))
    go_wp2
    have hL:=HLs.out
    have hg2:w.heap.size + 2 < w5.heap.size:=qdf HG5.out
    refine bodyPost_ret (v:=.agg #[.int .i64 (preE L base),.slice Ao out2.size co,.slice Ab (qgm ⟨base,rs,ats⟩ ids).size cb]) (by simp [results,Tryz.results85,go_sem,m0,m1,m2]) rfl ⟨_,⟨preE L base,out2,qgm ⟨base,rs,ats⟩ ids⟩,rfl,?_,?_,?_,?_⟩
    ·refine ⟨Ao,co,Ab,cb,rfl,?_,?_,HNo.out,HNb.out,fun g off e=>by have:=HFo.out g off e;omega,fun g off e=>by have:=HFb.out g off e;omega⟩
     ·have hne:∀ g off,Ao=some ⟨g,off,none⟩→g≠w.heap.size + 1 + 1:=fun g off e=>by have:=HFo.out g off e;omega
      exact (((HRo.out.far _ _ hne).far _ _ hne).far _ _ hne).mono (by simp)
     ·have hne:∀ g off,Ab=some ⟨g,off,none⟩→g≠w.heap.size + 1 + 1:=fun g off e=>by have:=HFb.out g off e;omega
      exact (((((HRb.out.below HBd.out).mono HBd.out.size).far _ _ hne).far _ _ hne).far _ _ hne).mono (by simp)
    ·refine ⟨L,HIs.out.congr (fun n=>?_),by omega,⟨rfl,HLess.out,rfl⟩⟩
     rw [HSl.out]
     exact setl_p HP.out n
    ·have hset:qam L=0:=HIs.out.set (by omega)
     have hp:=(qmm hset base).1
     have hc:=(qji hset (b:=preE L base) (by omega) HLess.out).2
     show out2.size≤_
     omega
    ·exact (((qaa HB1.out (qaa HB15.out hbw)).setCell (by simp;omega) _).setCell (by simp;omega) _).setCell (by simp;omega) _
   ·have q5:decide ((0:Int) < (out.size:Int))=false:=decide_eq_false (by omega)
    have q5n:decide (0 < out.size)=false:=decide_eq_false hm
    have HB5:Hid (Below w3.heap.size w3 w3):=Below.refl _ _
    clear u0 u1 u2
    obtain ⟨⟨u0,u1,u2⟩,_⟩:=blk3 (qar (qar HK1.out HB3.out) HB5.out)
    have HG5:=hI (qar (qar HG1.out HB3.out) HB5.out)
    have HB15:=hI (qaa HB3.out HB5.out)
    have KS:Hid (∀ W,Below w3.heap.size w3 W→W.cell? ⟨w.heap.size,0,none⟩=some (.int .i64 base)∧W.cell? ⟨w.heap.size,2,none⟩=some (.slice A2 ats.size c2)):=fun W hb=>by
     obtain ⟨⟨p0,p1,p2⟩,_⟩:=blk3 (qar (qar (qar HK1.out HB3.out) HB5.out) hb)
     exact ⟨p0,p2⟩
    have KT:Hid (∀ W a b c,Below w3.heap.size w3 W→(((W.setCell ⟨w.heap.size + 1 + 1,0,none⟩ a).setCell ⟨w.heap.size + 1 + 1,1,none⟩ b).setCell ⟨w.heap.size + 1 + 1,2,none⟩ c).cell? ⟨w.heap.size,0,none⟩=some (.int .i64 base)∧(((W.setCell ⟨w.heap.size + 1 + 1,0,none⟩ a).setCell ⟨w.heap.size + 1 + 1,1,none⟩ b).setCell ⟨w.heap.size + 1 + 1,2,none⟩ c).cell? ⟨w.heap.size,2,none⟩=some (.slice A2 ats.size c2)):=fun W a b c hb=>by
     obtain ⟨p0,p2⟩:=KS.out W hb
     have hne:∀ i j,(⟨w.heap.size + 1 + 1,i,none⟩:Addr).block≠(⟨w.heap.size,j,none⟩:Addr).block:=fun i j=>by show w.heap.size + 1 + 1≠w.heap.size;omega
     exact ⟨by rw [World.cell?_setCell_far _ _ _ _ (hne _ _),World.cell?_setCell_far _ _ _ _ (hne _ _),World.cell?_setCell_far _ _ _ _ (hne _ _)];exact p0,by rw [World.cell?_setCell_far _ _ _ _ (hne _ _),World.cell?_setCell_far _ _ _ _ (hne _ _),World.cell?_setCell_far _ _ _ _ (hne _ _)];exact p2⟩
    have HCl:Hid (∀ W,Below w3.heap.size w3 W→Calls Tryz.prog 65 #[.slice A2 ats.size c2] W fun e w'=>∃ v,e=.returned v∧w'.ownsRow w3.heap.size 29 2 v ats.size (flatK qaf 2 ats).toList∧Below w3.heap.size w3 w'):=fun W hb=>(qfx A2 c2 ats W ((H2.out.below (qaa HB1.out (qaa HB15.out hb))).mono (qaa HB1.out (qaa HB15.out hb)).size) (by omega)).mono fun e w' ⟨v,he,ho,hb'⟩=>⟨v,he,qbs ho hb.size,qaa hb hb'⟩
    have HDl:Hid (∀ W v,Below w3.heap.size w3 W→W.ownsRow w3.heap.size 29 2 v ats.size (flatK qaf 2 ats).toList→Calls Tryz.prog 69 #[v,.func (.func 168) #[] #[.pointer (some ⟨w.heap.size + 1,0,none⟩)]] W fun e w'=>∃ A c,e=.returned (.slice A (qgm ⟨base,rs,ats⟩ ids).size c)∧RdK qaf 2 w'.heap.size w' A (qgm ⟨base,rs,ats⟩ ids)∧(A=none→c=0)∧(∀ g off,A=some ⟨g,off,none⟩→w3.heap.size≤g)∧Below w3.heap.size w3 w'):=fun W v hb ho=>(HSd.out w3.heap.size v W HB5.out.size (qaa HB15.out hb) ho hb.size).mono fun e w' ⟨A,c,he,hr,hn,hf,hb'⟩=>⟨A,c,he,hr,hn,hf,hb.trans hb'⟩
    have HFm:Hid (∀ W A n c,Below w3.heap.size w3 W→Calls Tryz.prog 76 #[.int .i64 base,.slice Al L.size cl,.slice A n c] W fun e w'=>∃ Ao out co,e=.returned (.agg #[.int .i64 (preE L base),.slice Ao out.size co,.slice A n c])∧LessE L (1,preE L base) out∧RdK encR 2 w'.heap.size w' Ao out∧(Ao=none→co=0)∧(∀ g off,Ao=some ⟨g,off,none⟩→w3.heap.size≤g)∧Below W.heap.size W w'):=fun W A n c hb=>(form_K base Al cl L A n c W ((HRL.out.below (qaa HB5.out hb)).mono (qaa HB5.out hb).size)).mono fun e w' ⟨Ao,o,co,he,h1,h2,h3,h4,h5⟩=>⟨Ao,o,co,he,h1,h2,h3,(fun g off e=>Nat.le_trans hb.size (h4 g off e)),h5⟩
    have hb0:Below w3.heap.size w3 w3:=Below.refl _ _
    go_wp2_with fail
    go_region_held3 (fun W=>W.cell? ⟨w.heap.size,0,none⟩=some (.int .i64 base)∧W.cell? ⟨w.heap.size,2,none⟩=some (.slice A2 ats.size c2)) (first | exact KS.out _ (by assumption) | exact KS.out _ (Below.drew (by assumption)) | exact KT.out _ _ _ _ (by assumption) | go_keep)
     (first
       | (go_at_call 65;((with_reducible refine (HCl.out _ (by first | assumption | exact Below.drew (by assumption))).mono ?_);rintro e wa ⟨va,rfl,hoa,hba⟩;have HOa:=hI hoa;clear hoa))
       | (go_at_call 69;((with_reducible refine (HDl.out _ _ (by first | assumption | exact Below.drew (by assumption)) (by first | exact HOa.out | exact HOa.out.drew)).mono ?_);rintro e wb ⟨Ab,cb,rfl,hrb,hnb,hfb,hbb⟩;have HRb:=hI hrb;have HNb:=hI hnb;have HFb:=hI hfb;clear hrb hnb hfb))
       | (go_at_call 76;((with_reducible refine (HFm.out _ _ _ _ (by first | assumption | exact Below.drew (by assumption))).mono ?_);rintro e wd ⟨Ao,out2,co,rfl,hLess,hro,hno,hfo,hbd⟩;have HLess:=hI hLess;have HRo:=hI hro;have HNo:=hI hno;have HFo:=hI hfo;have HBd:Hid (Below wb.heap.size wb wd):=hbd;have hbw:Below w3.heap.size w3 wd:=qaa hbb hbd;obtain ⟨⟨m0,m1,m2⟩,f0⟩:=blk3 (qar HG5.out hbw);clear hLess hro hno hfo hbd)))
    go_wp2
    have hL:=HLs.out
    have hg2:w.heap.size + 2 < w3.heap.size:=qdf HG5.out
    refine bodyPost_ret (v:=.agg #[.int .i64 (preE L base),.slice Ao out2.size co,.slice Ab (qgm ⟨base,rs,ats⟩ ids).size cb]) (by simp [results,Tryz.results85,go_sem,m0,m1,m2]) rfl ⟨_,⟨preE L base,out2,qgm ⟨base,rs,ats⟩ ids⟩,rfl,?_,?_,?_,?_⟩
    ·refine ⟨Ao,co,Ab,cb,rfl,?_,?_,HNo.out,HNb.out,fun g off e=>by have:=HFo.out g off e;omega,fun g off e=>by have:=HFb.out g off e;omega⟩
     ·have hne:∀ g off,Ao=some ⟨g,off,none⟩→g≠w.heap.size + 1 + 1:=fun g off e=>by have:=HFo.out g off e;omega
      exact (((HRo.out.far _ _ hne).far _ _ hne).far _ _ hne).mono (by simp)
     ·have hne:∀ g off,Ab=some ⟨g,off,none⟩→g≠w.heap.size + 1 + 1:=fun g off e=>by have:=HFb.out g off e;omega
      exact (((((HRb.out.below HBd.out).mono HBd.out.size).far _ _ hne).far _ _ hne).far _ _ hne).mono (by simp)
    ·refine ⟨L,HIs.out.congr (fun n=>?_),by omega,⟨rfl,HLess.out,rfl⟩⟩
     rw [HSl.out]
     exact setl_p HP.out n
    ·have hset:qam L=0:=HIs.out.set (by omega)
     have hp:=(qmm hset base).1
     have hc:=(qji hset (b:=preE L base) (by omega) HLess.out).2
     show out2.size≤_
     omega
    ·exact (((qaa HB1.out (qaa HB15.out hbw)).setCell (by simp;omega) _).setCell (by simp;omega) _).setCell (by simp;omega) _
end Go.Proofs.YtlkmagmdhopcjaaGreat
namespace Go.Proofs.YtlkmagmdhopcjaaGreat
open Go.ChangeShapes Go.WideShapes Go.ChangeAt Go.RowKit Go.Deep Go.Joins
set_option maxRecDepth 100000
section
variable {H:Type} {enc:TypeId×Value→H} {P:Program} {w:World} {base:Nat} {sp:Nat→Bool} {held:Bool}
theorem qei {t:TypeId} {fs:Array Field} {n:Nat} {cs:List Value} {x:DataW H×List MemPlace} (hs:P.underlying t=some (.struct fs))
 (h:DataW.trod enc P w base sp held n t cs=some x):cs.length=P.cellsOf t∧∀ (j o:Nat) (u:TypeId),(fs[j]?).map (fun f=>(f.offset,f.type))=some (o,u)→∃ y m,DataW.trod enc P w base sp held m u ((cs.drop o).take (P.cellsOf u))=some y:=by
 obtain ⟨xs,m,_,_,hcl,hlen,hg⟩:=DataW.trod_struct hs h
 refine ⟨hcl,fun j o u hj=>?_⟩
 obtain ⟨f,hf1,hf2⟩:=Option.map_eq_some_iff.1 hj
 injection hf2 with e1 e2
 have hjl:j < fs.size:=(Array.getElem?_eq_some_iff.1 hf1).1
 have h1:=hg j f hf1
 rw [e1,e2] at h1
 have hys:xs[j]?=some (xs[j]'(by omega)):=List.getElem?_eq_getElem (by omega)
 exact ⟨xs[j]'(by omega),m,h1.trans hys⟩
theorem qly {t e:TypeId} {n:Nat} {cs:List Value} {x:DataW H×List MemPlace} (ht:P.underlying t=some (.slice e)) (h:DataW.trod enc P w base sp held n t cs=some x):∃ v,cs=[v]:=by
 rcases DataW.trod_slice ht h with ⟨hcs,_⟩ | ⟨a,len,cap,_,_,_,_,hcs,_⟩
 ·exact ⟨_,hcs⟩
 ·exact ⟨_,hcs⟩
end
theorem qbn:Tryz.prog.cellsOf 3 = 1:=by kernel_rfl
section
variable {H:Type} {enc:TypeId×Value→H} {w:World}
theorem qva {B:Nat} {w:World} {A:Option Addr} {d:Array Int} (h:RdK qdx 1 B w A d):RdI_R B w A d:=fun h0=>by
 obtain ⟨b,off,e,hlt,hc⟩:=h h0
 refine ⟨b,off,e,hlt,fun i hi=>?_⟩
 rw [hc i (by omega),Go.Sort.get_flatK _ _ _ _ (by omega),Nat.mod_one,Nat.div_one]
 rfl
theorem prRUnd:Tryz.prog.underlying 124 = some (.struct (Tryz.prog.fieldsOf 124)):=by kernel_rfl
theorem prRTys:(Tryz.prog.fieldsOf 124).map (fun f=>(f.offset,f.type))=#[(0,3),(1,3)]:=by kernel_rfl
theorem prRCel:Tryz.prog.cellsOf 124 = 2:=by kernel_rfl
theorem qvb {n:Nat} {cs:List Value} {x:DataW H×List MemPlace} (h:DataW.trod enc Tryz.prog w 0 (fun _=>true) true n 124 cs=some x):∃ a:Int×Int,cs=encR a∧True:=by
 obtain ⟨hl,hf⟩:=qei prRUnd h
 rw [prRCel] at hl
 have hty:∀ j o u,(#[(0,3),(1,3)]:Array (Nat×TypeId))[j]?=some (o,u)→∃ y m,DataW.trod enc Tryz.prog w 0 (fun _=>true) true m u ((cs.drop o).take (Tryz.prog.cellsOf u))=some y:=fun j o u hj=>hf j o u (by rw [←prRTys,Array.getElem?_map] at hj;exact hj)
 clear hf h
 obtain ⟨c0,cs,rfl⟩:=List.exists_cons_of_length_eq_add_one hl
 have hl:=Nat.succ.inj hl
 obtain ⟨c1,cs,rfl⟩:=List.exists_cons_of_length_eq_add_one hl
 have hl:=Nat.succ.inj hl
 obtain rfl:cs=[]:=List.eq_nil_of_length_eq_zero hl
 obtain ⟨_,_,g0⟩:=hty 0 0 _ rfl
 rw [qbn] at g0
 obtain ⟨x0,rfl⟩:=qag Tryz.underlying3 (g0:DataW.trod _ _ _ _ _ _ _ _ [c0]=some _)
 obtain ⟨_,_,g1⟩:=hty 1 1 _ rfl
 rw [qbn] at g1
 obtain ⟨x1,rfl⟩:=qag Tryz.underlying3 (g1:DataW.trod _ _ _ _ _ _ _ _ [c1]=some _)
 exact ⟨(x0,x1),rfl,trivial⟩
theorem prAUnd:Tryz.prog.underlying 29 = some (.struct (Tryz.prog.fieldsOf 29)):=by kernel_rfl
theorem prATys:(Tryz.prog.fieldsOf 29).map (fun f=>(f.offset,f.type))=#[(0,3),(1,3)]:=by kernel_rfl
theorem qrb:Tryz.prog.cellsOf 29 = 2:=by kernel_rfl
theorem qlb {n:Nat} {cs:List Value} {x:DataW H×List MemPlace} (h:DataW.trod enc Tryz.prog w 0 (fun _=>true) true n 29 cs=some x):∃ a:Int×Int,cs=qaf a∧True:=by
 obtain ⟨hl,hf⟩:=qei prAUnd h
 rw [qrb] at hl
 have hty:∀ j o u,(#[(0,3),(1,3)]:Array (Nat×TypeId))[j]?=some (o,u)→∃ y m,DataW.trod enc Tryz.prog w 0 (fun _=>true) true m u ((cs.drop o).take (Tryz.prog.cellsOf u))=some y:=fun j o u hj=>hf j o u (by rw [←prATys,Array.getElem?_map] at hj;exact hj)
 clear hf h
 obtain ⟨c0,cs,rfl⟩:=List.exists_cons_of_length_eq_add_one hl
 have hl:=Nat.succ.inj hl
 obtain ⟨c1,cs,rfl⟩:=List.exists_cons_of_length_eq_add_one hl
 have hl:=Nat.succ.inj hl
 obtain rfl:cs=[]:=List.eq_nil_of_length_eq_zero hl
 obtain ⟨_,_,g0⟩:=hty 0 0 _ rfl
 rw [qbn] at g0
 obtain ⟨x0,rfl⟩:=qag Tryz.underlying3 (g0:DataW.trod _ _ _ _ _ _ _ _ [c0]=some _)
 obtain ⟨_,_,g1⟩:=hty 1 1 _ rfl
 rw [qbn] at g1
 obtain ⟨x1,rfl⟩:=qag Tryz.underlying3 (g1:DataW.trod _ _ _ _ _ _ _ _ [c1]=some _)
 exact ⟨(x0,x1),rfl,trivial⟩
theorem keUnd:Tryz.prog.underlying 66 = some (.struct (Tryz.prog.fieldsOf 66)):=by kernel_rfl
theorem keTys:(Tryz.prog.fieldsOf 66).map (fun f=>(f.offset,f.type))=#[(0,3),(1,64),(2,23)]:=by kernel_rfl
theorem keCel:Tryz.prog.cellsOf 66 = 3:=by kernel_rfl
theorem trod_ke {n:Nat} {cs:List Value} {x:DataW H×List MemPlace} (h:DataW.trod enc Tryz.prog w 0 (fun _=>true) true n 66 cs=some x):∃ a:KE,cs=qaz a∧RdKE w a:=by
 obtain ⟨hl,hf⟩:=qei keUnd h
 rw [keCel] at hl
 have hty:∀ j o u,(#[(0,3),(1,64),(2,23)]:Array (Nat×TypeId))[j]?=some (o,u)→∃ y m,DataW.trod enc Tryz.prog w 0 (fun _=>true) true m u ((cs.drop o).take (Tryz.prog.cellsOf u))=some y:=fun j o u hj=>hf j o u (by rw [←keTys,Array.getElem?_map] at hj;exact hj)
 clear hf h
 obtain ⟨c0,cs,rfl⟩:=List.exists_cons_of_length_eq_add_one hl
 have hl:=Nat.succ.inj hl
 obtain ⟨c1,cs,rfl⟩:=List.exists_cons_of_length_eq_add_one hl
 have hl:=Nat.succ.inj hl
 obtain ⟨c2,cs,rfl⟩:=List.exists_cons_of_length_eq_add_one hl
 have hl:=Nat.succ.inj hl
 obtain rfl:cs=[]:=List.eq_nil_of_length_eq_zero hl
 obtain ⟨_,_,g0⟩:=hty 0 0 _ rfl
 rw [qbn] at g0
 obtain ⟨x0,rfl⟩:=qag Tryz.underlying3 (g0:DataW.trod _ _ _ _ _ _ _ _ [c0]=some _)
 obtain ⟨_,_,g1⟩:=hty 1 1 _ rfl
 rw [show Tryz.prog.cellsOf 64 = 1 by kernel_rfl] at g1
 obtain ⟨A1,e1,z1,rfl,r1,q1,s1,n1⟩:=qcu (en:=encR) (k:=2) (Q:=fun _=>True) Tryz.underlying64 prRCel (fun _=>rfl) (by decide) (fun _ _ _ h=>qvb h) (g1:DataW.trod _ _ _ _ _ _ _ _ [c1]=some _)
 obtain ⟨_,_,g2⟩:=hty 2 2 _ rfl
 rw [show Tryz.prog.cellsOf 23 = 1 by kernel_rfl] at g2
 obtain ⟨A2,e2,z2,rfl,r2,q2,s2,n2⟩:=qcu (en:=qaf) (k:=2) (Q:=fun _=>True) Tryz.underlying23 qrb (fun _=>rfl) (by decide) (fun _ _ _ h=>qlb h) (g2:DataW.trod _ _ _ _ _ _ _ _ [c2]=some _)
 exact ⟨⟨x0,⟨A1,e1,z1⟩,⟨A2,e2,z2⟩⟩,rfl,⟨r1,n1⟩,⟨r2,n2⟩⟩
theorem itmUnd:Tryz.prog.underlying 332 = some (.struct (Tryz.prog.fieldsOf 332)):=by kernel_rfl
theorem itmTys:(Tryz.prog.fieldsOf 332).map (fun f=>(f.offset,f.type))=#[(0,3),(1,3),(2,3),(3,3)]:=by kernel_rfl
theorem itmCel:Tryz.prog.cellsOf 332 = 4:=by kernel_rfl
theorem trod_itm {n:Nat} {cs:List Value} {x:DataW H×List MemPlace} (h:DataW.trod enc Tryz.prog w 0 (fun _=>true) true n 332 cs=some x):∃ a:IT,cs=encIT a∧True:=by
 obtain ⟨hl,hf⟩:=qei itmUnd h
 rw [itmCel] at hl
 have hty:∀ j o u,(#[(0,3),(1,3),(2,3),(3,3)]:Array (Nat×TypeId))[j]?=some (o,u)→∃ y m,DataW.trod enc Tryz.prog w 0 (fun _=>true) true m u ((cs.drop o).take (Tryz.prog.cellsOf u))=some y:=fun j o u hj=>hf j o u (by rw [←itmTys,Array.getElem?_map] at hj;exact hj)
 clear hf h
 obtain ⟨c0,cs,rfl⟩:=List.exists_cons_of_length_eq_add_one hl
 have hl:=Nat.succ.inj hl
 obtain ⟨c1,cs,rfl⟩:=List.exists_cons_of_length_eq_add_one hl
 have hl:=Nat.succ.inj hl
 obtain ⟨c2,cs,rfl⟩:=List.exists_cons_of_length_eq_add_one hl
 have hl:=Nat.succ.inj hl
 obtain ⟨c3,cs,rfl⟩:=List.exists_cons_of_length_eq_add_one hl
 have hl:=Nat.succ.inj hl
 obtain rfl:cs=[]:=List.eq_nil_of_length_eq_zero hl
 obtain ⟨_,_,g0⟩:=hty 0 0 _ rfl
 rw [qbn] at g0
 obtain ⟨x0,rfl⟩:=qag Tryz.underlying3 (g0:DataW.trod _ _ _ _ _ _ _ _ [c0]=some _)
 obtain ⟨_,_,g1⟩:=hty 1 1 _ rfl
 rw [qbn] at g1
 obtain ⟨x1,rfl⟩:=qag Tryz.underlying3 (g1:DataW.trod _ _ _ _ _ _ _ _ [c1]=some _)
 obtain ⟨_,_,g2⟩:=hty 2 2 _ rfl
 rw [qbn] at g2
 obtain ⟨x2,rfl⟩:=qag Tryz.underlying3 (g2:DataW.trod _ _ _ _ _ _ _ _ [c2]=some _)
 obtain ⟨_,_,g3⟩:=hty 3 3 _ rfl
 rw [qbn] at g3
 obtain ⟨x3,rfl⟩:=qag Tryz.underlying3 (g3:DataW.trod _ _ _ _ _ _ _ _ [c3]=some _)
 exact ⟨⟨x0,x1,x2,x3⟩,rfl,trivial⟩
theorem sesUnd:Tryz.prog.underlying 334 = some (.struct (Tryz.prog.fieldsOf 334)):=by kernel_rfl
theorem sesTys:(Tryz.prog.fieldsOf 334).map (fun f=>(f.offset,f.type))=#[(0,3),(1,3),(2,9)]:=by kernel_rfl
theorem sesCel:Tryz.prog.cellsOf 334 = 3:=by kernel_rfl
theorem trod_ses {n:Nat} {cs:List Value} {x:DataW H×List MemPlace} (h:DataW.trod enc Tryz.prog w 0 (fun _=>true) true n 334 cs=some x):∃ a:SS,cs=encSS a∧True:=by
 obtain ⟨hl,hf⟩:=qei sesUnd h
 rw [sesCel] at hl
 have hty:∀ j o u,(#[(0,3),(1,3),(2,9)]:Array (Nat×TypeId))[j]?=some (o,u)→∃ y m,DataW.trod enc Tryz.prog w 0 (fun _=>true) true m u ((cs.drop o).take (Tryz.prog.cellsOf u))=some y:=fun j o u hj=>hf j o u (by rw [←sesTys,Array.getElem?_map] at hj;exact hj)
 clear hf h
 obtain ⟨c0,cs,rfl⟩:=List.exists_cons_of_length_eq_add_one hl
 have hl:=Nat.succ.inj hl
 obtain ⟨c1,cs,rfl⟩:=List.exists_cons_of_length_eq_add_one hl
 have hl:=Nat.succ.inj hl
 obtain ⟨c2,cs,rfl⟩:=List.exists_cons_of_length_eq_add_one hl
 have hl:=Nat.succ.inj hl
 obtain rfl:cs=[]:=List.eq_nil_of_length_eq_zero hl
 obtain ⟨_,_,g0⟩:=hty 0 0 _ rfl
 rw [qbn] at g0
 obtain ⟨x0,rfl⟩:=qag Tryz.underlying3 (g0:DataW.trod _ _ _ _ _ _ _ _ [c0]=some _)
 obtain ⟨_,_,g1⟩:=hty 1 1 _ rfl
 rw [qbn] at g1
 obtain ⟨x1,rfl⟩:=qag Tryz.underlying3 (g1:DataW.trod _ _ _ _ _ _ _ _ [c1]=some _)
 obtain ⟨_,_,g2⟩:=hty 2 2 _ rfl
 rw [show Tryz.prog.cellsOf 9 = 1 by kernel_rfl] at g2
 obtain ⟨x2,rfl⟩:=qgo Tryz.underlying9 (g2:DataW.trod _ _ _ _ _ _ _ _ [c2]=some _)
 exact ⟨⟨x0,x1,x2⟩,rfl,trivial⟩
theorem trod_iv {n:Nat} {cs:List Value} {x:DataW H×List MemPlace} (h:DataW.trod enc Tryz.prog w 0 (fun _=>true) true n 3 cs=some x):∃ a:Int,cs=qdx a∧True:=by
 obtain ⟨a,e0,_,_⟩:=DataW.trod_int Tryz.underlying3 h
 exact ⟨a,e0,trivial⟩
theorem trod_il {n:Nat} {cs:List Value} {x:DataW H×List MemPlace} (h:DataW.trod enc Tryz.prog w 0 (fun _=>true) true n 26 cs=some x):∃ a:RW Int,cs=encW a∧RdJ w a:=by
 obtain ⟨v,rfl⟩:=qly Tryz.underlying26 h
 obtain ⟨A,c,z,rfl,r,_,s,n'⟩:=qcu (en:=qdx) (k:=1) (Q:=fun _=>True) Tryz.underlying26 qbn (fun _=>rfl) (by decide) (fun _ _ _ h=>trod_iv h) h
 exact ⟨⟨A,c,z⟩,rfl,qva r,s,n'⟩
theorem trod_rl {n:Nat} {cs:List Value} {x:DataW H×List MemPlace} (h:DataW.trod enc Tryz.prog w 0 (fun _=>true) true n 64 cs=some x):∃ a:RW (Int×Int),cs=encW a∧RdW encR 2 w a:=by
 obtain ⟨v,rfl⟩:=qly Tryz.underlying64 h
 obtain ⟨A,c,z,rfl,r,_,s,n'⟩:=qcu (en:=encR) (k:=2) (Q:=fun _=>True) Tryz.underlying64 prRCel (fun _=>rfl) (by decide) (fun _ _ _ h=>qvb h) h
 exact ⟨⟨A,c,z⟩,rfl,r,s,n'⟩
def encSto (x:RW IT×RW SS):List Value:=[x.1.v,x.2.v]
theorem stoUnd:Tryz.prog.underlying 33 = some (.struct (Tryz.prog.fieldsOf 33)):=by kernel_rfl
theorem stoTys:(Tryz.prog.fieldsOf 33).map (fun f=>(f.offset,f.type))=#[(0,30),(1,31)]:=by kernel_rfl
theorem stoCel:Tryz.prog.cellsOf 33 = 2:=by kernel_rfl
theorem trod_sto {n:Nat} {cs:List Value} {x:DataW H×List MemPlace} (h:DataW.trod enc Tryz.prog w 0 (fun _=>true) true n 33 cs=some x):∃ a:RW IT×RW SS,cs=encSto a∧(RdW encIT 4 w a.1∧RdW encSS 3 w a.2):=by
 obtain ⟨hl,hf⟩:=qei stoUnd h
 rw [stoCel] at hl
 have hty:∀ j o u,(#[(0,30),(1,31)]:Array (Nat×TypeId))[j]?=some (o,u)→∃ y m,DataW.trod enc Tryz.prog w 0 (fun _=>true) true m u ((cs.drop o).take (Tryz.prog.cellsOf u))=some y:=fun j o u hj=>hf j o u (by rw [←stoTys,Array.getElem?_map] at hj;exact hj)
 clear hf h
 obtain ⟨c0,cs,rfl⟩:=List.exists_cons_of_length_eq_add_one hl
 have hl:=Nat.succ.inj hl
 obtain ⟨c1,cs,rfl⟩:=List.exists_cons_of_length_eq_add_one hl
 have hl:=Nat.succ.inj hl
 obtain rfl:cs=[]:=List.eq_nil_of_length_eq_zero hl
 obtain ⟨_,_,g0⟩:=hty 0 0 _ rfl
 rw [show Tryz.prog.cellsOf 30 = 1 by kernel_rfl] at g0
 obtain ⟨A0,e0,z0,rfl,r0,q0,s0,n0⟩:=qcu (en:=encIT) (k:=4) (Q:=fun _=>True) Tryz.underlying30 itmCel encIT_len (by decide) (fun _ _ _ h=>trod_itm h) (g0:DataW.trod _ _ _ _ _ _ _ _ [c0]=some _)
 obtain ⟨_,_,g1⟩:=hty 1 1 _ rfl
 rw [show Tryz.prog.cellsOf 31 = 1 by kernel_rfl] at g1
 obtain ⟨A1,e1,z1,rfl,r1,q1,s1,n1⟩:=qcu (en:=encSS) (k:=3) (Q:=fun _=>True) Tryz.underlying31 sesCel encSS_len (by decide) (fun _ _ _ h=>trod_ses h) (g1:DataW.trod _ _ _ _ _ _ _ _ [c1]=some _)
 exact ⟨(⟨A0,e0,z0⟩,⟨A1,e1,z1⟩),rfl,⟨r0,s0,n0⟩,⟨r1,s1,n1⟩⟩
theorem repUnd:Tryz.prog.underlying 35 = some (.struct (Tryz.prog.fieldsOf 35)):=by kernel_rfl
theorem repTys:(Tryz.prog.fieldsOf 35).map (fun f=>(f.offset,f.type))=#[(0,3),(1,3),(2,3),(3,3),(4,3),(5,3),(6,3),(7,22),(8,23),(9,24),(10,25),(11,26),(12,27),(13,29),(15,3),(16,33)]:=by kernel_rfl
theorem repCel:Tryz.prog.cellsOf 35 = 18:=by kernel_rfl
theorem trod_rep {n:Nat} {cs:List Value} {x:DataW H×List MemPlace} (h:DataW.trod enc Tryz.prog w 0 (fun _=>true) true n 35 cs=some x):∃ a:RP,cs=encP a∧RdP w a:=by
 obtain ⟨hl,hf⟩:=qei repUnd h
 rw [repCel] at hl
 have hty:∀ j o u,(#[(0,3),(1,3),(2,3),(3,3),(4,3),(5,3),(6,3),(7,22),(8,23),(9,24),(10,25),(11,26),(12,27),(13,29),(15,3),(16,33)]:Array (Nat×TypeId))[j]?=some (o,u)→∃ y m,DataW.trod enc Tryz.prog w 0 (fun _=>true) true m u ((cs.drop o).take (Tryz.prog.cellsOf u))=some y:=fun j o u hj=>hf j o u (by rw [←repTys,Array.getElem?_map] at hj;exact hj)
 clear hf h
 obtain ⟨c0,cs,rfl⟩:=List.exists_cons_of_length_eq_add_one hl
 have hl:=Nat.succ.inj hl
 obtain ⟨c1,cs,rfl⟩:=List.exists_cons_of_length_eq_add_one hl
 have hl:=Nat.succ.inj hl
 obtain ⟨c2,cs,rfl⟩:=List.exists_cons_of_length_eq_add_one hl
 have hl:=Nat.succ.inj hl
 obtain ⟨c3,cs,rfl⟩:=List.exists_cons_of_length_eq_add_one hl
 have hl:=Nat.succ.inj hl
 obtain ⟨c4,cs,rfl⟩:=List.exists_cons_of_length_eq_add_one hl
 have hl:=Nat.succ.inj hl
 obtain ⟨c5,cs,rfl⟩:=List.exists_cons_of_length_eq_add_one hl
 have hl:=Nat.succ.inj hl
 obtain ⟨c6,cs,rfl⟩:=List.exists_cons_of_length_eq_add_one hl
 have hl:=Nat.succ.inj hl
 obtain ⟨c7,cs,rfl⟩:=List.exists_cons_of_length_eq_add_one hl
 have hl:=Nat.succ.inj hl
 obtain ⟨c8,cs,rfl⟩:=List.exists_cons_of_length_eq_add_one hl
 have hl:=Nat.succ.inj hl
 obtain ⟨c9,cs,rfl⟩:=List.exists_cons_of_length_eq_add_one hl
 have hl:=Nat.succ.inj hl
 obtain ⟨c10,cs,rfl⟩:=List.exists_cons_of_length_eq_add_one hl
 have hl:=Nat.succ.inj hl
 obtain ⟨c11,cs,rfl⟩:=List.exists_cons_of_length_eq_add_one hl
 have hl:=Nat.succ.inj hl
 obtain ⟨c12,cs,rfl⟩:=List.exists_cons_of_length_eq_add_one hl
 have hl:=Nat.succ.inj hl
 obtain ⟨c13,cs,rfl⟩:=List.exists_cons_of_length_eq_add_one hl
 have hl:=Nat.succ.inj hl
 obtain ⟨c14,cs,rfl⟩:=List.exists_cons_of_length_eq_add_one hl
 have hl:=Nat.succ.inj hl
 obtain ⟨c15,cs,rfl⟩:=List.exists_cons_of_length_eq_add_one hl
 have hl:=Nat.succ.inj hl
 obtain ⟨c16,cs,rfl⟩:=List.exists_cons_of_length_eq_add_one hl
 have hl:=Nat.succ.inj hl
 obtain ⟨c17,cs,rfl⟩:=List.exists_cons_of_length_eq_add_one hl
 have hl:=Nat.succ.inj hl
 obtain rfl:cs=[]:=List.eq_nil_of_length_eq_zero hl
 obtain ⟨_,_,g0⟩:=hty 0 0 _ rfl
 rw [qbn] at g0
 obtain ⟨x0,rfl⟩:=qag Tryz.underlying3 (g0:DataW.trod _ _ _ _ _ _ _ _ [c0]=some _)
 obtain ⟨_,_,g1⟩:=hty 1 1 _ rfl
 rw [qbn] at g1
 obtain ⟨x1,rfl⟩:=qag Tryz.underlying3 (g1:DataW.trod _ _ _ _ _ _ _ _ [c1]=some _)
 obtain ⟨_,_,g2⟩:=hty 2 2 _ rfl
 rw [qbn] at g2
 obtain ⟨x2,rfl⟩:=qag Tryz.underlying3 (g2:DataW.trod _ _ _ _ _ _ _ _ [c2]=some _)
 obtain ⟨_,_,g3⟩:=hty 3 3 _ rfl
 rw [qbn] at g3
 obtain ⟨x3,rfl⟩:=qag Tryz.underlying3 (g3:DataW.trod _ _ _ _ _ _ _ _ [c3]=some _)
 obtain ⟨_,_,g4⟩:=hty 4 4 _ rfl
 rw [qbn] at g4
 obtain ⟨x4,rfl⟩:=qag Tryz.underlying3 (g4:DataW.trod _ _ _ _ _ _ _ _ [c4]=some _)
 obtain ⟨_,_,g5⟩:=hty 5 5 _ rfl
 rw [qbn] at g5
 obtain ⟨x5,rfl⟩:=qag Tryz.underlying3 (g5:DataW.trod _ _ _ _ _ _ _ _ [c5]=some _)
 obtain ⟨_,_,g6⟩:=hty 6 6 _ rfl
 rw [qbn] at g6
 obtain ⟨x6,rfl⟩:=qag Tryz.underlying3 (g6:DataW.trod _ _ _ _ _ _ _ _ [c6]=some _)
 obtain ⟨_,_,g7⟩:=hty 7 7 _ rfl
 rw [show Tryz.prog.cellsOf 22 = 1 by kernel_rfl] at g7
 obtain ⟨A7,e7,z7,rfl,r7,q7,s7,n7⟩:=qcu (en:=encE) (k:=10) (Q:=RdE0 w) Tryz.underlying22 (by rw [entC,entS]) qbz (by decide) (fun _ _ _ h=>trod_ent h) (g7:DataW.trod _ _ _ _ _ _ _ _ [c7]=some _)
 obtain ⟨_,_,g8⟩:=hty 8 8 _ rfl
 rw [show Tryz.prog.cellsOf 23 = 1 by kernel_rfl] at g8
 obtain ⟨A8,e8,z8,rfl,r8,q8,s8,n8⟩:=qcu (en:=qaf) (k:=2) (Q:=fun _=>True) Tryz.underlying23 qrb (fun _=>rfl) (by decide) (fun _ _ _ h=>qlb h) (g8:DataW.trod _ _ _ _ _ _ _ _ [c8]=some _)
 obtain ⟨_,_,g9⟩:=hty 9 9 _ rfl
 rw [show Tryz.prog.cellsOf 24 = 1 by kernel_rfl] at g9
 obtain ⟨A9,e9,z9,rfl,r9,q9,s9,n9⟩:=qcu (en:=qaz) (k:=3) (Q:=RdKE w) Tryz.underlying24 keCel qmp (by decide) (fun _ _ _ h=>trod_ke h) (g9:DataW.trod _ _ _ _ _ _ _ _ [c9]=some _)
 obtain ⟨_,_,g10⟩:=hty 10 10 _ rfl
 rw [show Tryz.prog.cellsOf 25 = 1 by kernel_rfl] at g10
 obtain ⟨A10,e10,z10,rfl,r10,q10,s10,n10⟩:=qcu (en:=encW) (k:=1) (Q:=RdJ w) Tryz.underlying25 (by kernel_rfl) qpv (by decide) (fun _ _ _ h=>trod_il h) (g10:DataW.trod _ _ _ _ _ _ _ _ [c10]=some _)
 obtain ⟨_,_,g11⟩:=hty 11 11 _ rfl
 rw [show Tryz.prog.cellsOf 26 = 1 by kernel_rfl] at g11
 obtain ⟨a11,q11,r11⟩:=trod_il (g11:DataW.trod _ _ _ _ _ _ _ _ [c11]=some _)
 obtain rfl:c11=a11.v:=by simpa [encW] using q11
 obtain ⟨_,_,g12⟩:=hty 12 12 _ rfl
 rw [show Tryz.prog.cellsOf 27 = 1 by kernel_rfl] at g12
 obtain ⟨A12,e12,z12,rfl,r12,q12,s12,n12⟩:=qcu (en:=encW) (k:=1) (Q:=RdW encR 2 w) Tryz.underlying27 (by kernel_rfl) qpv (by decide) (fun _ _ _ h=>trod_rl h) (g12:DataW.trod _ _ _ _ _ _ _ _ [c12]=some _)
 obtain ⟨_,_,g13⟩:=hty 13 13 _ rfl
 rw [qrb] at g13
 obtain ⟨a13,q13,_⟩:=qlb (g13:DataW.trod _ _ _ _ _ _ _ _ [c13,c14]=some _)
 obtain ⟨rfl,rfl⟩:c13=.int .i64 a13.1∧c14=.int .i64 a13.2:=by simpa [qaf] using q13
 obtain ⟨_,_,g15⟩:=hty 14 15 _ rfl
 rw [qbn] at g15
 obtain ⟨x15,rfl⟩:=qag Tryz.underlying3 (g15:DataW.trod _ _ _ _ _ _ _ _ [c15]=some _)
 obtain ⟨_,_,g16⟩:=hty 15 16 _ rfl
 rw [stoCel] at g16
 obtain ⟨a16,q16,r16,r17⟩:=trod_sto (g16:DataW.trod _ _ _ _ _ _ _ _ [c16,c17]=some _)
 obtain ⟨rfl,rfl⟩:c16=a16.1.v∧c17=a16.2.v:=by simpa [encSto] using q16
 exact ⟨⟨x0,x1,x2,x3,x4,x5,x6,⟨A7,e7,z7⟩,⟨A8,e8,z8⟩,⟨A9,e9,z9⟩,⟨A10,e10,z10⟩,a11,⟨A12,e12,z12⟩,a13.1,a13.2,x15,a16.1,a16.2⟩,rfl,
  ⟨r7,q7⟩,⟨r8,n8⟩,⟨r9,s9,n9⟩,q9,⟨r10,s10,n10⟩,q10,r11,⟨r12,s12,n12⟩,q12,r16,r17⟩
theorem open_rep {r:Reach} {b0:Nat} {v:Value} {d:DataW H} {p:List MemPlace} (hv:Value.okWide Tryz.prog w r b0 35 v) (h:DataW.Trod enc Tryz.prog w 0 (fun _=>true) true 35 v d p):∃ a:RP,v=.agg (encP a).toArray∧RdP w a:=by
 obtain ⟨cs,rfl,_⟩:=okWide_struct repUnd hv
 obtain ⟨fuel,hf⟩:=h
 obtain ⟨a,e,ha⟩:=trod_rep hf
 have e':cs.toList=encP a:=e
 exact ⟨a,by rw [←e'],ha⟩
end
end Go.Proofs.YtlkmagmdhopcjaaGreat
namespace Go.Proofs.YtlkmagmdhopcjaaGreat
open Go.ChangeShapes Go.WideShapes Go.ChangeAt Go.RowKit Go.Deep Go.Joins
set_option maxRecDepth 100000
theorem msgU_H:Tryz.prog.underlying 37 = some (.struct (Tryz.prog.fieldsOf 37)):=by kernel_rfl
theorem msgT_H:(Tryz.prog.fieldsOf 37).map (·.type)=#[3,3,3,3,3,3,3,3,9,3,3,23,26,3]:=by kernel_rfl
theorem msgO_H:oneCellFields Tryz.prog (Tryz.prog.fieldsOf 37)=true:=by kernel_rfl
theorem msgC_H:Tryz.prog.cellsOf 37 = (Tryz.prog.fieldsOf 37).size:=by kernel_rfl
theorem msgS_H:(Tryz.prog.fieldsOf 37).size=14:=by kernel_rfl
section
variable {H:Type} {enc:TypeId×Value→H} {w:World}
theorem trod_msg {n:Nat} {cs:List Value} {x:DataW H×List MemPlace} (h:DataW.trod enc Tryz.prog w 0 (fun _=>true) true n 37 cs=some x):∃ m:PM,cs=(msgC m).toList∧RdK encA 2 w.heap.size w m.aA m.ats∧RdI w.heap.size w m.mA m.mks:=by
 obtain ⟨hl,hf⟩:=qiq msgU_H msgO_H msgC_H h
 rw [msgS_H] at hl
 have hty:∀ j u,(#[3,3,3,3,3,3,3,3,9,3,3,23,26,3]:Array TypeId)[j]?=some u→∃ c y m,cs[j]?=some c∧DataW.trod enc Tryz.prog w 0 (fun _=>true) true m u [c]=some y:=fun j u hj=>hf j u (by rw [←msgT_H,Array.getElem?_map] at hj;exact hj)
 obtain ⟨c0,_,_,k0,g0⟩:=hty 0 _ rfl
 obtain ⟨x0,rfl⟩:=qag Tryz.underlying3 g0
 obtain ⟨c1,_,_,k1,g1⟩:=hty 1 _ rfl
 obtain ⟨x1,rfl⟩:=qag Tryz.underlying3 g1
 obtain ⟨c2,_,_,k2,g2⟩:=hty 2 _ rfl
 obtain ⟨x2,rfl⟩:=qag Tryz.underlying3 g2
 obtain ⟨c3,_,_,k3,g3⟩:=hty 3 _ rfl
 obtain ⟨x3,rfl⟩:=qag Tryz.underlying3 g3
 obtain ⟨c4,_,_,k4,g4⟩:=hty 4 _ rfl
 obtain ⟨x4,rfl⟩:=qag Tryz.underlying3 g4
 obtain ⟨c5,_,_,k5,g5⟩:=hty 5 _ rfl
 obtain ⟨x5,rfl⟩:=qag Tryz.underlying3 g5
 obtain ⟨c6,_,_,k6,g6⟩:=hty 6 _ rfl
 obtain ⟨x6,rfl⟩:=qag Tryz.underlying3 g6
 obtain ⟨c7,_,_,k7,g7⟩:=hty 7 _ rfl
 obtain ⟨x7,rfl⟩:=qag Tryz.underlying3 g7
 obtain ⟨c8,_,_,k8,g8⟩:=hty 8 _ rfl
 obtain ⟨x8,rfl⟩:=qgo Tryz.underlying9 g8
 obtain ⟨c9,_,_,k9,g9⟩:=hty 9 _ rfl
 obtain ⟨x9,rfl⟩:=qag Tryz.underlying3 g9
 obtain ⟨c10,_,_,k10,g10⟩:=hty 10 _ rfl
 obtain ⟨x10,rfl⟩:=qag Tryz.underlying3 g10
 obtain ⟨c11,_,_,k11,g11⟩:=hty 11 _ rfl
 obtain ⟨A,a,z,rfl,hz,_,_,_⟩:=qcu (en:=qaf) (k:=2) (Q:=fun _=>True) Tryz.underlying23 qrb (fun _=>rfl) (by decide) (fun _ _ _ h=>qlb h) g11
 obtain ⟨c12,_,_,k12,g12⟩:=hty 12 _ rfl
 obtain ⟨B,b,y,rfl,hy,_,_,_⟩:=qcu (en:=qdx) (k:=1) (Q:=fun _=>True) Tryz.underlying26 qbn (fun _=>rfl) (by decide) (fun _ _ _ h=>trod_iv h) g12
 obtain ⟨c13,_,_,k13,g13⟩:=hty 13 _ rfl
 obtain ⟨x13,rfl⟩:=qag Tryz.underlying3 g13
 refine ⟨⟨x0,x1,x2,x3,x4,x5,x6,x7,x8,x9,x10,A,a,z,B,b,y,x13⟩,qkc 14 hl rfl fun j hj=>?_,hz,qva hy⟩
 rcases (show j=0∨j=1∨j=2∨j=3∨j=4∨j=5∨j=6∨j=7∨j=8∨j=9∨j=10∨j=11∨j=12∨j=13 by omega) with rfl | rfl | rfl | rfl | rfl | rfl | rfl | rfl | rfl | rfl | rfl | rfl | rfl | rfl
 ·exact k0
 ·exact k1
 ·exact k2
 ·exact k3
 ·exact k4
 ·exact k5
 ·exact k6
 ·exact k7
 ·exact k8
 ·exact k9
 ·exact k10
 ·exact k11
 ·exact k12
 ·exact k13
theorem open_msgH {r:Reach} {b0:Nat} {v:Value} {d:DataW H} {p:List MemPlace} (hv:Value.okWide Tryz.prog w r b0 37 v) (h:DataW.Trod enc Tryz.prog w 0 (fun _=>true) true 37 v d p):∃ m:PM,v=.agg (msgC m)∧RdK encA 2 w.heap.size w m.aA m.ats∧RdI w.heap.size w m.mA m.mks:=by
 obtain ⟨cs,rfl,_⟩:=okWide_struct msgU_H hv
 obtain ⟨fuel,hf⟩:=h
 obtain ⟨m,e,h1,h2⟩:=trod_msg hf
 have e':cs.toList=(msgC m).toList:=e
 exact ⟨m,by rw [show cs=msgC m from Array.ext' e'],h1,h2⟩
end
end Go.Proofs.YtlkmagmdhopcjaaGreat
