/- Texts that the law leans on. -/
import Derived.Deep.CutRange
import Derived.Deep.CutBlock
import Derived.Test.YtjkecckndfcbjaaGreatDoorPDskB
namespace Go.Proofs.YtjkecckndfcbjaaGreatDoor
open Go.RowKit Nb
theorem hasT_ne (k:Int) (h:¬ (k < 1∨10 < k)):(⟨(hasT k).toArray⟩:ByteArray).toList.isEmpty=false:=by
 have:k=1∨k=2∨k=3∨k=4∨k=5∨k=6∨k=7∨k=8∨k=9∨k=10:=by omega
 rw [Lib.toList_data]
 rcases this with rfl | rfl | rfl | rfl | rfl | rfl | rfl | rfl | rfl | rfl <;> rfl
theorem hasT_out (k:Int) (h:k < 1∨10 < k):hasT k=[]:=by unfold hasT;(repeat' rw [if_neg (by omega)])
set_option maxRecDepth 100000 in
set_option maxHeartbeats 8000000 in
theorem rChk_any (m:PM) (w:World) (hm:RdM w m) :
 Calls Tryz.prog 158 #[msgV m] w fun e w'=>e=.returned (.int .i64 (chkR m))∧Below w.heap.size w w':=by
 have HN:=hI (fun W=>qub m.k W)
 by_cases hk:m.k < 1∨10 < m.k
 ·have HC:Hid (chkR m=30):=by show _=_;unfold chkR;rw [if_pos hk]
  obtain ⟨s,hs⟩:∃ s:ByteArray,s=⟨(hasT m.k).toArray⟩:=⟨_,rfl⟩
  have hne:s.toList.isEmpty=true:=by rw [hs,hasT_out _ hk,Lib.toList_data];rfl
  rw [←hs] at HN
  unfold msgV
  clear hk hm hs
  go_enter Tryz.func158,Tryz.ntmps158
  go_wp2_with (go_at_call 169;refine (HN.out _).mono ?_;rintro e w1 ⟨rfl,hb1⟩;have HB1:=hI (qad (bel1 w _) hb1);clear hb1)
  go_ret
  exact ⟨by rw [HC.out];rfl,HB1.out⟩
 ·have hne:=hasT_ne _ hk
  have HC:Hid (chkR m=if c4 m && c5 m && (if hasB m.k 97 then c7 m else c8 m) && (if hasB m.k 112 then proB m else c11 m) then 0 else 2):=by show _=_;unfold chkR;rw [if_neg hk]
  generalize chkR m=res at HC ⊢
  obtain ⟨s,hs⟩:∃ s:ByteArray,s=⟨(hasT m.k).toArray⟩:=⟨_,rfl⟩
  rw [←hs] at HN hne
  unfold msgV
  clear hk hs
  go_enter Tryz.func158,Tryz.ntmps158
  go_wp2_with fail
  refine (HN.out _).mono ?_
  rintro e w1 ⟨rfl,hb1⟩
  have hlt:w.heap.size < w1.heap.size:=by have:=hb1.size;simp at this;omega
  have q0:∀ W,Below w1.heap.size w1 W→W.cell? ⟨w.heap.size,0,none⟩=some (.int .i64 m.k):=fun W h=>(h.cell (p:=⟨w.heap.size,0,none⟩) hlt).trans ((hb1.cell (p:=⟨w.heap.size,0,none⟩) (by simp)).trans (by simp))
  have q1:∀ W,Below w1.heap.size w1 W→W.cell? ⟨w.heap.size,1,none⟩=some (.int .i64 m.fr):=fun W h=>(h.cell (p:=⟨w.heap.size,1,none⟩) hlt).trans ((hb1.cell (p:=⟨w.heap.size,1,none⟩) (by simp)).trans (by simp))
  have q2:∀ W,Below w1.heap.size w1 W→W.cell? ⟨w.heap.size,2,none⟩=some (.int .i64 m.id):=fun W h=>(h.cell (p:=⟨w.heap.size,2,none⟩) hlt).trans ((hb1.cell (p:=⟨w.heap.size,2,none⟩) (by simp)).trans (by simp))
  have q3:∀ W,Below w1.heap.size w1 W→W.cell? ⟨w.heap.size,3,none⟩=some (.int .i64 m.t):=fun W h=>(h.cell (p:=⟨w.heap.size,3,none⟩) hlt).trans ((hb1.cell (p:=⟨w.heap.size,3,none⟩) (by simp)).trans (by simp))
  have q4:∀ W,Below w1.heap.size w1 W→W.cell? ⟨w.heap.size,4,none⟩=some (.int .i64 m.bal):=fun W h=>(h.cell (p:=⟨w.heap.size,4,none⟩) hlt).trans ((hb1.cell (p:=⟨w.heap.size,4,none⟩) (by simp)).trans (by simp))
  have q5:∀ W,Below w1.heap.size w1 W→W.cell? ⟨w.heap.size,5,none⟩=some (.int .i64 m.abal):=fun W h=>(h.cell (p:=⟨w.heap.size,5,none⟩) hlt).trans ((hb1.cell (p:=⟨w.heap.size,5,none⟩) (by simp)).trans (by simp))
  have q6:∀ W,Below w1.heap.size w1 W→W.cell? ⟨w.heap.size,6,none⟩=some (.int .i64 m.ph):=fun W h=>(h.cell (p:=⟨w.heap.size,6,none⟩) hlt).trans ((hb1.cell (p:=⟨w.heap.size,6,none⟩) (by simp)).trans (by simp))
  have q7:∀ W,Below w1.heap.size w1 W→W.cell? ⟨w.heap.size,7,none⟩=some (.int .i64 m.q):=fun W h=>(h.cell (p:=⟨w.heap.size,7,none⟩) hlt).trans ((hb1.cell (p:=⟨w.heap.size,7,none⟩) (by simp)).trans (by simp))
  have q8:∀ W,Below w1.heap.size w1 W→W.cell? ⟨w.heap.size,8,none⟩=some (.string m.pay):=fun W h=>(h.cell (p:=⟨w.heap.size,8,none⟩) hlt).trans ((hb1.cell (p:=⟨w.heap.size,8,none⟩) (by simp)).trans (by simp))
  have q9:∀ W,Below w1.heap.size w1 W→W.cell? ⟨w.heap.size,9,none⟩=some (.int .i64 m.lo):=fun W h=>(h.cell (p:=⟨w.heap.size,9,none⟩) hlt).trans ((hb1.cell (p:=⟨w.heap.size,9,none⟩) (by simp)).trans (by simp))
  have q10:∀ W,Below w1.heap.size w1 W→W.cell? ⟨w.heap.size,10,none⟩=some (.int .i64 m.hi):=fun W h=>(h.cell (p:=⟨w.heap.size,10,none⟩) hlt).trans ((hb1.cell (p:=⟨w.heap.size,10,none⟩) (by simp)).trans (by simp))
  have q11:∀ W,Below w1.heap.size w1 W→W.cell? ⟨w.heap.size,11,none⟩=some (.slice m.aA m.ats.size m.aC):=fun W h=>(h.cell (p:=⟨w.heap.size,11,none⟩) hlt).trans ((hb1.cell (p:=⟨w.heap.size,11,none⟩) (by simp)).trans (by simp))
  have q12:∀ W,Below w1.heap.size w1 W→W.cell? ⟨w.heap.size,12,none⟩=some (.slice m.mA m.mks.size m.mC):=fun W h=>(h.cell (p:=⟨w.heap.size,12,none⟩) hlt).trans ((hb1.cell (p:=⟨w.heap.size,12,none⟩) (by simp)).trans (by simp))
  have q13:∀ W,Below w1.heap.size w1 W→W.cell? ⟨w.heap.size,13,none⟩=some (.int .i64 m.dn):=fun W h=>(h.cell (p:=⟨w.heap.size,13,none⟩) hlt).trans ((hb1.cell (p:=⟨w.heap.size,13,none⟩) (by simp)).trans (by simp))
  have HQ:=hI (fun W h=>(And.intro (q0 W h) (And.intro (q1 W h) (And.intro (q2 W h) (And.intro (q3 W h) (And.intro (q4 W h) (And.intro (q5 W h) (And.intro (q6 W h) (And.intro (q7 W h) (And.intro (q8 W h) (And.intro (q9 W h) (And.intro (q10 W h) (And.intro (q11 W h) (And.intro (q12 W h) (q13 W h)))))))))))))))
  have r1:=q1 w1 (Below.refl _ _)
  have r2:=q2 w1 (Below.refl _ _)
  have r0:=q0 w1 (Below.refl _ _)
  have HB1:=hI (qad (bel1 w _) hb1)
  have HSP:=hI (fun W=>qmd m.id W)
  clear q0 q1 q2 q3 q4 q5 q6 q7 q8 q9 q10 q11 q12 q13 hb1
  go_upto_region 4 with (go_at_call 170;refine (HSP.out _).mono ?_;rintro e w' ⟨rfl,rfl⟩)
  go_cut [5] from 16 to 166 (fun v wx=>v=.bool (c4 m)∧Below w1.heap.size w1 wx)
  case first =>
   have HH:=hI (fun W=>qiq m.k 105 W)
   have HE:Hid (c4 m=(decide (1≤m.fr) && decide (m.fr≤9) && (okId m.id == hasB m.k 105) && (okId m.id || decide (m.id=0)))):=rfl
   have hsp:=qpy m.id
   generalize hasB m.k 105=f at HH HE
   generalize okId m.id=oi at HE hsp
   clear hm hne HN HC HSP
   by_cases h1:1≤m.fr
   ·by_cases h9:m.fr≤9
    ·have h0:=beqI m.id 0
     have h1':decide (1≤m.fr)=true:=by simp;omega
     have h9':decide (m.fr≤9)=true:=by simp;omega
     rw [h1',h9'] at HE
     generalize decide (m.id=0)=z at h0 HE
     cases z <;> cases oi <;> cases f
     all_goals as_aux_lemma =>
      go_wp2_with (go_at_call 171;refine (HH.out _).mono ?_;rintro e w2 ⟨rfl,hb2⟩;have HB2:=hI hb2;have r2':=(HQ.out w2 hb2).2.2.1;clear hb2)
      go_meet
      exact ⟨by rw [HE.out];rfl,HB2.out⟩
    ·have h9':decide (m.fr≤9)=false:=by simp;omega
     rw [h9'] at HE
     go_wp2_with fail
     go_meet
     exact ⟨by rw [HE.out];simp,Below.refl _ _⟩
   ·have h1':decide (1≤m.fr)=false:=by simp;omega
    rw [h1'] at HE
    go_wp2_with fail
    go_meet
    exact ⟨by rw [HE.out];simp,Below.refl _ _⟩
  -- THE REST
  obtain ⟨hu5,hbc⟩:=hcut
  subst hu5
  have HBc:=hI hbc
  clear hbc r0 r1 r2 HSP
  generalize hb4:c4 m=b4 at HC
  clear hb4
  go_upto_region 5 with (fail)
  go_cut [5] from 41 to 166 (fun v wx=>v=.bool (b4 && c5 m)∧Below w1.heap.size w1 wx)
  case first =>
   have HE:Hid (c5 m=(inB (hasB m.k 116) m.t 1 1000000 && inB (hasB m.k 98) m.bal 1 1000000 && inB (hasB m.k 99) m.q 1 511 && decide (m.pay.size≤300) && (hasB m.k 99 || decide (m.pay=⟨#[]⟩)))):=rfl
   have q0:∀ p:ExtW wc,p.to.cell? ⟨w.heap.size,0,none⟩=some (.int .i64 m.k):=fun p=>(HQ.out p.to (HBc.out.trans (p.h.mono HBc.out.size))).1
   have q3:∀ p:ExtW wc,p.to.cell? ⟨w.heap.size,3,none⟩=some (.int .i64 m.t):=fun p=>(HQ.out p.to (HBc.out.trans (p.h.mono HBc.out.size))).2.2.2.1
   have q4:∀ p:ExtW wc,p.to.cell? ⟨w.heap.size,4,none⟩=some (.int .i64 m.bal):=fun p=>(HQ.out p.to (HBc.out.trans (p.h.mono HBc.out.size))).2.2.2.2.1
   have q7:∀ p:ExtW wc,p.to.cell? ⟨w.heap.size,7,none⟩=some (.int .i64 m.q):=fun p=>(HQ.out p.to (HBc.out.trans (p.h.mono HBc.out.size))).2.2.2.2.2.2.2.1
   have q8:∀ p:ExtW wc,p.to.cell? ⟨w.heap.size,8,none⟩=some (.string m.pay):=fun p=>(HQ.out p.to (HBc.out.trans (p.h.mono HBc.out.size))).2.2.2.2.2.2.2.2.1
   have H116:Hid (∀ W,Calls Tryz.prog 171 #[.int .i64 m.k,.int .u8 116] W fun e w'=>e=.returned (.bool (hasB m.k 116))∧Below W.heap.size W w'):=fun W=>qiq m.k 116 W
   have H98:Hid (∀ W,Calls Tryz.prog 171 #[.int .i64 m.k,.int .u8 98] W fun e w'=>e=.returned (.bool (hasB m.k 98))∧Below W.heap.size W w'):=fun W=>qiq m.k 98 W
   have H99:Hid (∀ W,Calls Tryz.prog 171 #[.int .i64 m.k,.int .u8 99] W fun e w'=>e=.returned (.bool (hasB m.k 99))∧Below W.heap.size W w'):=fun W=>qiq m.k 99 W
   have I1:=hI (fun W=>in_any (hasB m.k 116) m.t 1 1000000 W)
   have I2:=hI (fun W=>in_any (hasB m.k 98) m.bal 1 1000000 W)
   have I3:=hI (fun W=>in_any (hasB m.k 99) m.q 1 511 W)
   generalize inB (hasB m.k 116) m.t 1 1000000=i1 at I1 HE
   generalize inB (hasB m.k 98) m.bal 1 1000000=i2 at I2 HE
   generalize inB (hasB m.k 99) m.q 1 511=i3 at I3 HE
   generalize hasB m.k 116=f1 at H116 I1
   generalize hasB m.k 98=f2 at H98 I2
   generalize hasB m.k 99=f3 at H99 I3 HE
   clear hm hne HN HC
   cases b4
   case false =>
    as_aux_lemma =>
     refine qai (by kernel_rfl) (by kernel_rfl) ?_
     repeat (first | go_big_quiet_step ((first | (go_at_call 171;(first | (with_reducible exact Calls.ext_of (H116.out _)) | (with_reducible exact Calls.ext_of (H98.out _)) | (with_reducible exact Calls.ext_of (H99.out _)))) | (go_at_call 172;(first | (with_reducible exact Calls.ext_same (I1.out _)) | (with_reducible exact Calls.ext_same (I2.out _)) | (with_reducible exact Calls.ext_same (I3.out _)))))) | quiet_step ((first | (go_at_call 171;(first | (with_reducible exact Calls.ext_of (H116.out _)) | (with_reducible exact Calls.ext_of (H98.out _)) | (with_reducible exact Calls.ext_of (H99.out _)))) | (go_at_call 172;(first | (with_reducible exact Calls.ext_same (I1.out _)) | (with_reducible exact Calls.ext_same (I2.out _)) | (with_reducible exact Calls.ext_same (I3.out _)))))))
     refine wpQuiet_nil ?_
     intro w' hw'
     obtain ⟨⟨W,hbW⟩,hw''⟩:=hw'
     have hw3:w'=W:=hw''
     subst hw3
     have HBW:=hI (HBc.out.trans (hbW.mono HBc.out.size))
     clear hbW hw''
     go_wp2
     go_meet
     exact ⟨by simp,HBW.out⟩
   cases i1
   case false =>
    as_aux_lemma =>
     refine qai (by kernel_rfl) (by kernel_rfl) ?_
     repeat (first | go_big_quiet_step ((first | (go_at_call 171;(first | (with_reducible exact Calls.ext_of (H116.out _)) | (with_reducible exact Calls.ext_of (H98.out _)) | (with_reducible exact Calls.ext_of (H99.out _)))) | (go_at_call 172;(first | (with_reducible exact Calls.ext_same (I1.out _)) | (with_reducible exact Calls.ext_same (I2.out _)) | (with_reducible exact Calls.ext_same (I3.out _)))))) | quiet_step ((first | (go_at_call 171;(first | (with_reducible exact Calls.ext_of (H116.out _)) | (with_reducible exact Calls.ext_of (H98.out _)) | (with_reducible exact Calls.ext_of (H99.out _)))) | (go_at_call 172;(first | (with_reducible exact Calls.ext_same (I1.out _)) | (with_reducible exact Calls.ext_same (I2.out _)) | (with_reducible exact Calls.ext_same (I3.out _)))))))
     refine wpQuiet_nil ?_
     intro w' hw'
     obtain ⟨⟨W,hbW⟩,hw''⟩:=hw'
     have hw3:w'=W:=hw''
     subst hw3
     have HBW:=hI (HBc.out.trans (hbW.mono HBc.out.size))
     clear hbW hw''
     go_wp2
     go_meet
     exact ⟨by rw [HE.out];simp,HBW.out⟩
   cases i2
   case false =>
    as_aux_lemma =>
     refine qai (by kernel_rfl) (by kernel_rfl) ?_
     repeat (first | go_big_quiet_step ((first | (go_at_call 171;(first | (with_reducible exact Calls.ext_of (H116.out _)) | (with_reducible exact Calls.ext_of (H98.out _)) | (with_reducible exact Calls.ext_of (H99.out _)))) | (go_at_call 172;(first | (with_reducible exact Calls.ext_same (I1.out _)) | (with_reducible exact Calls.ext_same (I2.out _)) | (with_reducible exact Calls.ext_same (I3.out _)))))) | quiet_step ((first | (go_at_call 171;(first | (with_reducible exact Calls.ext_of (H116.out _)) | (with_reducible exact Calls.ext_of (H98.out _)) | (with_reducible exact Calls.ext_of (H99.out _)))) | (go_at_call 172;(first | (with_reducible exact Calls.ext_same (I1.out _)) | (with_reducible exact Calls.ext_same (I2.out _)) | (with_reducible exact Calls.ext_same (I3.out _)))))))
     refine wpQuiet_nil ?_
     intro w' hw'
     obtain ⟨⟨W,hbW⟩,hw''⟩:=hw'
     have hw3:w'=W:=hw''
     subst hw3
     have HBW:=hI (HBc.out.trans (hbW.mono HBc.out.size))
     clear hbW hw''
     go_wp2
     go_meet
     exact ⟨by rw [HE.out];simp,HBW.out⟩
   cases i3
   case false =>
    as_aux_lemma =>
     refine qai (by kernel_rfl) (by kernel_rfl) ?_
     repeat (first | go_big_quiet_step ((first | (go_at_call 171;(first | (with_reducible exact Calls.ext_of (H116.out _)) | (with_reducible exact Calls.ext_of (H98.out _)) | (with_reducible exact Calls.ext_of (H99.out _)))) | (go_at_call 172;(first | (with_reducible exact Calls.ext_same (I1.out _)) | (with_reducible exact Calls.ext_same (I2.out _)) | (with_reducible exact Calls.ext_same (I3.out _)))))) | quiet_step ((first | (go_at_call 171;(first | (with_reducible exact Calls.ext_of (H116.out _)) | (with_reducible exact Calls.ext_of (H98.out _)) | (with_reducible exact Calls.ext_of (H99.out _)))) | (go_at_call 172;(first | (with_reducible exact Calls.ext_same (I1.out _)) | (with_reducible exact Calls.ext_same (I2.out _)) | (with_reducible exact Calls.ext_same (I3.out _)))))))
     refine wpQuiet_nil ?_
     intro w' hw'
     obtain ⟨⟨W,hbW⟩,hw''⟩:=hw'
     have hw3:w'=W:=hw''
     subst hw3
     have HBW:=hI (HBc.out.trans (hbW.mono HBc.out.size))
     clear hbW hw''
     go_wp2
     go_meet
     exact ⟨by rw [HE.out];simp,HBW.out⟩
   by_cases hp:m.pay.size≤300
   case neg =>
    have hpd:decide ((m.pay.size:Int)≤300)=false:=by simp;omega
    have HE2:Hid (c5 m=false):=by show _=_;rw [HE.out];simp [hp]
    clear hp HE
    as_aux_lemma =>
     refine qai (by kernel_rfl) (by kernel_rfl) ?_
     repeat (first | go_big_quiet_step ((first | (go_at_call 171;(first | (with_reducible exact Calls.ext_of (H116.out _)) | (with_reducible exact Calls.ext_of (H98.out _)) | (with_reducible exact Calls.ext_of (H99.out _)))) | (go_at_call 172;(first | (with_reducible exact Calls.ext_same (I1.out _)) | (with_reducible exact Calls.ext_same (I2.out _)) | (with_reducible exact Calls.ext_same (I3.out _)))))) | quiet_step ((first | (go_at_call 171;(first | (with_reducible exact Calls.ext_of (H116.out _)) | (with_reducible exact Calls.ext_of (H98.out _)) | (with_reducible exact Calls.ext_of (H99.out _)))) | (go_at_call 172;(first | (with_reducible exact Calls.ext_same (I1.out _)) | (with_reducible exact Calls.ext_same (I2.out _)) | (with_reducible exact Calls.ext_same (I3.out _)))))))
     refine wpQuiet_nil ?_
     intro w' hw'
     obtain ⟨⟨W,hbW⟩,hw''⟩:=hw'
     have hw3:w'=W:=hw''
     subst hw3
     have HBW:=hI (HBc.out.trans (hbW.mono HBc.out.size))
     clear hbW hw''
     go_wp2
     go_meet
     exact ⟨by rw [HE2.out];simp,HBW.out⟩
   have hpd:decide ((m.pay.size:Int)≤300)=true:=by simp;omega
   cases f3
   case true =>
    have HE2:Hid (c5 m=true):=by show _=_;rw [HE.out];simp [hp]
    clear hp HE
    as_aux_lemma =>
     refine qai (by kernel_rfl) (by kernel_rfl) ?_
     repeat (first | go_big_quiet_step ((first | (go_at_call 171;(first | (with_reducible exact Calls.ext_of (H116.out _)) | (with_reducible exact Calls.ext_of (H98.out _)) | (with_reducible exact Calls.ext_of (H99.out _)))) | (go_at_call 172;(first | (with_reducible exact Calls.ext_same (I1.out _)) | (with_reducible exact Calls.ext_same (I2.out _)) | (with_reducible exact Calls.ext_same (I3.out _)))))) | quiet_step ((first | (go_at_call 171;(first | (with_reducible exact Calls.ext_of (H116.out _)) | (with_reducible exact Calls.ext_of (H98.out _)) | (with_reducible exact Calls.ext_of (H99.out _)))) | (go_at_call 172;(first | (with_reducible exact Calls.ext_same (I1.out _)) | (with_reducible exact Calls.ext_same (I2.out _)) | (with_reducible exact Calls.ext_same (I3.out _)))))))
     refine wpQuiet_nil ?_
     intro w' hw'
     obtain ⟨⟨W,hbW⟩,hw''⟩:=hw'
     have hw3:w'=W:=hw''
     subst hw3
     have HBW:=hI (HBc.out.trans (hbW.mono HBc.out.size))
     clear hbW hw''
     go_wp2
     go_meet
     exact ⟨by rw [HE2.out];simp,HBW.out⟩
   by_cases he:m.pay=⟨#[]⟩
   case pos =>
    have hpe:m.pay.toList.isEmpty=true:=by rw [he,Lib.toList_data];rfl
    have HE2:Hid (c5 m=true):=by show _=_;rw [HE.out,decide_eq_true hp,decide_eq_true he];rfl
    clear hp he HE
    as_aux_lemma =>
     refine qai (by kernel_rfl) (by kernel_rfl) ?_
     repeat (first | go_big_quiet_step ((first | (go_at_call 171;(first | (with_reducible exact Calls.ext_of (H116.out _)) | (with_reducible exact Calls.ext_of (H98.out _)) | (with_reducible exact Calls.ext_of (H99.out _)))) | (go_at_call 172;(first | (with_reducible exact Calls.ext_same (I1.out _)) | (with_reducible exact Calls.ext_same (I2.out _)) | (with_reducible exact Calls.ext_same (I3.out _)))))) | quiet_step ((first | (go_at_call 171;(first | (with_reducible exact Calls.ext_of (H116.out _)) | (with_reducible exact Calls.ext_of (H98.out _)) | (with_reducible exact Calls.ext_of (H99.out _)))) | (go_at_call 172;(first | (with_reducible exact Calls.ext_same (I1.out _)) | (with_reducible exact Calls.ext_same (I2.out _)) | (with_reducible exact Calls.ext_same (I3.out _)))))))
     refine wpQuiet_nil ?_
     intro w' hw'
     obtain ⟨⟨W,hbW⟩,hw''⟩:=hw'
     have hw3:w'=W:=hw''
     subst hw3
     have HBW:=hI (HBc.out.trans (hbW.mono HBc.out.size))
     clear hbW hw''
     go_wp2
     go_meet
     exact ⟨by rw [HE2.out];simp,HBW.out⟩
   have hpe:m.pay.toList.isEmpty=false:=by
    rw [Lib.toList_data]
    cases hd:m.pay.data.toList with
    | nil=>exact absurd (ByteArray.ext (Array.ext' (by rw [hd]))) he
    | cons a l=>rfl
   have HE2:Hid (c5 m=false):=by show _=_;rw [HE.out];simp [he]
   clear hp he HE
   as_aux_lemma =>
    refine qai (by kernel_rfl) (by kernel_rfl) ?_
    repeat (first | go_big_quiet_step ((first | (go_at_call 171;(first | (with_reducible exact Calls.ext_of (H116.out _)) | (with_reducible exact Calls.ext_of (H98.out _)) | (with_reducible exact Calls.ext_of (H99.out _)))) | (go_at_call 172;(first | (with_reducible exact Calls.ext_same (I1.out _)) | (with_reducible exact Calls.ext_same (I2.out _)) | (with_reducible exact Calls.ext_same (I3.out _)))))) | quiet_step ((first | (go_at_call 171;(first | (with_reducible exact Calls.ext_of (H116.out _)) | (with_reducible exact Calls.ext_of (H98.out _)) | (with_reducible exact Calls.ext_of (H99.out _)))) | (go_at_call 172;(first | (with_reducible exact Calls.ext_same (I1.out _)) | (with_reducible exact Calls.ext_same (I2.out _)) | (with_reducible exact Calls.ext_same (I3.out _)))))))
    refine wpQuiet_nil ?_
    intro w' hw'
    obtain ⟨⟨W,hbW⟩,hw''⟩:=hw'
    have hw3:w'=W:=hw''
    subst hw3
    have HBW:=hI (HBc.out.trans (hbW.mono HBc.out.size))
    clear hbW hw''
    go_wp2
    go_meet
    exact ⟨by rw [HE2.out];simp,HBW.out⟩
  obtain ⟨hu5,hbd⟩:=hcut
  subst hu5
  have HBd:=hI hbd
  have r0:=(HQ.out _ hbd).1
  have H97:=hI (fun W=>qiq m.k 97 W)
  generalize (b4 && c5 m)=b5 at HC
  clear hbd HBc
  generalize hasB m.k 97=f4 at H97 HC
  go_upto_if 84 with (go_at_call 171;refine (H97.out _).mono ?_;rintro e w2 ⟨rfl,hb2⟩;have HB2:=hI (HBd.out.trans (hb2.mono HBd.out.size));clear hb2)
  go_cut [5] from 85 to 166 (fun v wx=>v=.bool (b5 && (if f4 then c7 m else c8 m))∧Below w1.heap.size w1 wx)
  case first =>
   have HE7:Hid (c7 m=(decide (0≤m.abal) && decide (m.abal < m.bal) && decide (1≤m.ph) && decide (m.ph≤4) && (decide (0 < m.abal) || decide (3≤m.ph)))):=rfl
   have HE8:Hid (c8 m=(decide (m.abal=0) && decide (m.ph=0))):=rfl
   have r4:=(HQ.out _ HB2.out).2.2.2.2.1
   have r5:=(HQ.out _ HB2.out).2.2.2.2.2.1
   have r6:=(HQ.out _ HB2.out).2.2.2.2.2.2.1
   clear hm hne HN HC r0 H97
   cases b5
   case false =>
    cases f4
    all_goals
     as_aux_lemma =>
      go_wp2
      go_meet
      exact ⟨by simp,HB2.out⟩
   cases f4
   case false =>
    have e1:=beqI m.abal 0
    have e2:=beqI m.ph 0
    generalize decide (m.abal=0)=x1 at e1 HE8
    generalize decide (m.ph=0)=x2 at e2 HE8
    cases x1 <;> cases x2
    all_goals
     as_aux_lemma =>
      go_wp2
      go_meet
      exact ⟨by rw [HE8.out];rfl,HB2.out⟩
   by_cases g0:0≤m.abal
   case neg =>
    have d0:decide (0≤m.abal)=false:=by simp;omega
    have HX:Hid (c7 m=false):=by show _=_;rw [HE7.out,d0];simp
    as_aux_lemma =>
     go_wp2
     go_meet
     exact ⟨by rw [HX.out];rfl,HB2.out⟩
   have d0:decide (0≤m.abal)=true:=by simp;omega
   by_cases g1:m.abal < m.bal
   case neg =>
    have d1:decide (m.abal < m.bal)=false:=by simp;omega
    have HX:Hid (c7 m=false):=by show _=_;rw [HE7.out,d1];simp
    as_aux_lemma =>
     go_wp2
     go_meet
     exact ⟨by rw [HX.out];rfl,HB2.out⟩
   have d1:decide (m.abal < m.bal)=true:=by simp;omega
   by_cases g2:1≤m.ph
   case neg =>
    have d2:decide (1≤m.ph)=false:=by simp;omega
    have HX:Hid (c7 m=false):=by show _=_;rw [HE7.out,d2];simp
    as_aux_lemma =>
     go_wp2
     go_meet
     exact ⟨by rw [HX.out];rfl,HB2.out⟩
   have d2:decide (1≤m.ph)=true:=by simp;omega
   by_cases g3:m.ph≤4
   case neg =>
    have d3:decide (m.ph≤4)=false:=by simp;omega
    have HX:Hid (c7 m=false):=by show _=_;rw [HE7.out,d3];simp
    as_aux_lemma =>
     go_wp2
     go_meet
     exact ⟨by rw [HX.out];rfl,HB2.out⟩
   have d3:decide (m.ph≤4)=true:=by simp;omega
   by_cases g4:0 < m.abal
   case pos =>
    have d4:decide (0 < m.abal)=true:=by simp;omega
    have HX:Hid (c7 m=true):=by show _=_;rw [HE7.out,d0,d1,d2,d3,d4];rfl
    as_aux_lemma =>
     go_wp2
     go_meet
     exact ⟨by rw [HX.out];rfl,HB2.out⟩
   have d4:decide (0 < m.abal)=false:=by simp;omega
   by_cases g5:3≤m.ph
   case pos =>
    have d5:decide (3≤m.ph)=true:=by simp;omega
    have HX:Hid (c7 m=true):=by show _=_;rw [HE7.out,d0,d1,d2,d3,d4,d5];rfl
    as_aux_lemma =>
     go_wp2
     go_meet
     exact ⟨by rw [HX.out];rfl,HB2.out⟩
   have d5:decide (3≤m.ph)=false:=by simp;omega
   have HX:Hid (c7 m=false):=by show _=_;rw [HE7.out,d0,d1,d2,d3,d4,d5];rfl
   as_aux_lemma =>
    go_wp2
    go_meet
    exact ⟨by rw [HX.out];rfl,HB2.out⟩
  obtain ⟨hu5,hbe⟩:=hcut
  subst hu5
  have HBe:=hI hbe
  have r0:=(HQ.out _ hbe).1
  have H112:=hI (fun W=>qiq m.k 112 W)
  generalize (b5 && (if f4 then c7 m else c8 m))=b6 at HC
  clear hbe HBd HB2
  generalize hasB m.k 112=f5 at H112 HC
  go_upto_if 131 with (go_at_call 171;refine (H112.out _).mono ?_;rintro e w3 ⟨rfl,hb3⟩;have HB3:=hI (HBe.out.trans (hb3.mono HBe.out.size));clear hb3)
  go_cut [5] from 132 to 166 (fun v wx=>v=.bool (b6 && (if f5 then proB m else c11 m))∧Below w1.heap.size w1 wx)
  case first =>
   have HE11:Hid (c11 m=(decide (m.lo=0) && decide (m.hi=0) && decide (m.dn=0) && decide (m.ats.size=0) && decide (m.mks.size=0))):=rfl
   obtain ⟨p0,p1,p2,p3,p4,p5,p6,p7,p8,p9,p10,p11,p12,p13⟩:=HQ.out _ HB3.out
   have HPR:=hI (fun W (h:Below w1.heap.size w1 W)=>rPro_all m.k m.fr m.id m.t m.bal m.abal m.ph m.q m.pay m.lo m.hi m.aA m.aC m.ats m.mA m.mC m.mks m.dn W (hm.next (qad HB1.out h)).ra (hm.next (qad HB1.out h)).rm hm.sa hm.sm)
   have HPP:Hid (proX m.lo m.hi m.dn m.ats m.mks=proB m):=rfl
   rw [HPP.out] at HPR
   clear hm hne HN HC r0 H112 HPP
   cases b6
   case false =>
    cases f5
    all_goals
     go_wp2
     go_meet
     exact ⟨by simp,HB3.out⟩
   cases f5
   case true =>
    go_wp2_with (go_at_call 173;refine (HPR.out _ HB3.out).mono ?_;rintro e w4 ⟨rfl,hb4⟩;have HB4:=hI (HB3.out.trans (hb4.mono HB3.out.size));clear hb4)
    go_meet
    exact ⟨by simp,HB4.out⟩
   have e1:=beqI m.lo 0
   have e2:=beqI m.hi 0
   have e3:=beqI m.dn 0
   have e4:((m.ats.size:Int) == 0)=decide (m.ats.size=0):=by rw [beqI];exact decide_eq_decide.2 (by omega)
   have e5:((m.mks.size:Int) == 0)=decide (m.mks.size=0):=by rw [beqI];exact decide_eq_decide.2 (by omega)
   generalize decide (m.lo=0)=x1 at e1 HE11
   generalize decide (m.hi=0)=x2 at e2 HE11
   generalize decide (m.dn=0)=x3 at e3 HE11
   generalize decide (m.ats.size=0)=x4 at e4 HE11
   generalize decide (m.mks.size=0)=x5 at e5 HE11
   cases x1
   case false =>
    as_aux_lemma =>
     go_wp2
     go_meet
     exact ⟨by rw [HE11.out];simp,HB3.out⟩
   cases x2
   case false =>
    as_aux_lemma =>
     go_wp2
     go_meet
     exact ⟨by rw [HE11.out];simp,HB3.out⟩
   cases x3
   case false =>
    as_aux_lemma =>
     go_wp2
     go_meet
     exact ⟨by rw [HE11.out];simp,HB3.out⟩
   cases x4
   case false =>
    as_aux_lemma =>
     go_wp2
     go_meet
     exact ⟨by rw [HE11.out];simp,HB3.out⟩
   cases x5
   case false =>
    as_aux_lemma =>
     go_wp2
     go_meet
     exact ⟨by rw [HE11.out];simp,HB3.out⟩
   as_aux_lemma =>
    go_wp2
    go_meet
    exact ⟨by rw [HE11.out];simp,HB3.out⟩
  obtain ⟨hu5,hbf⟩:=hcut
  subst hu5
  have HBf:=hI (qad HB1.out hbf)
  generalize (b6 && (if f5 then proB m else c11 m))=b7 at HC
  clear hbf HBe HB3 hm hne HN r0
  cases b7
  all_goals
   go_wp2
   go_ret
   exact ⟨by rw [HC.out];rfl,HBf.out⟩
end Go.Proofs.YtjkecckndfcbjaaGreatDoor
