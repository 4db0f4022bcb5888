/- Texts that the law leans on. -/
import Derived.Test.YtjkecckndfcbjaaGreatDoorPOwnK
import Derived.Test.YtjkecckndfcbjaaGreatDoorPRowA
import Derived.Test.YtjkecckndfcbjaaGreatDoorPErrA
import Derived.Test.YtjkecckndfcbjaaGreatDoorPErrD
import Derived.Test.YtjkecckndfcbjaaGreatDoorPBase
import Derived.Defers
import Derived.RegionTactic
import Derived.BigRegion
import Derived.Test.YtjkecckndfcbjaaGreatDoorPBoxG
namespace Go.Proofs.YtjkecckndfcbjaaGreatDoor
open Go.RowKit Go.Sort Go.Lib
def chkM (m:PM):Int:=if m.k < 1∨10 < m.k then 30 else if decide (1≤m.fr∧m.fr≤9) && qfy (qbq m) m && mayB m then 0 else 2
def msgW:ByteArray:=⟨#[109,115,103]⟩
def ChkP (m:PM) (e:Ending) (w':World):Prop:=∃ v,e=.returned v∧ErrV w' (if chkM m=0 then [] else [msgW]) (chkM m) v
theorem RdM.bare {w:World} {m:PM} (h:RdM w m):RdM w (qbq m):=by
 refine ⟨?_,?_,?_,?_,?_⟩
 ·unfold qbq;by_cases hk:m.k=10
  ·simp [hk];exact h.ra
  ·simp [hk];exact fun h=>absurd h (by simp)
 ·unfold qbq;by_cases hk:m.k=10
  ·simp [hk];exact h.rm
  ·simp [hk];exact RdI.none_
 ·unfold qbq;by_cases hk:m.k=10
  ·simp [hk];exact h.sa
  ·simp [hk]
 ·unfold qbq;by_cases hk:m.k=10
  ·simp [hk];exact h.sm
  ·simp [hk]
 ·unfold qbq;have:=h.sp;simp only;split
  ·exact this
  ·simp [ByteArray.size]
set_option maxRecDepth 100000 in
set_option maxHeartbeats 4000000 in
theorem Check_any (m:PM) (w:World) (hm:RdM w m) :
 Calls Tryz.prog 156 #[msgV m] w fun e w'=>ChkP m e w'∧Below w.heap.size w w':=by
 have HN:=hI (fun W=>Name_any m.k W)
 by_cases hk:m.k < 1∨10 < m.k
 ·have HC:Hid (chkM m=30):=by show _=_;unfold chkM;rw [if_pos hk]
  have HF:=hI (fun W=>qee msgW 30 W (by omega))
  have hd:decide (m.k < 1∨10 < m.k)=true:=by simpa using hk
  unfold msgV
  clear hk hm
  go_enter Tryz.func156,Tryz.ntmps156
  go_wp2_with fail
  refine (HN.out _).mono ?_
  rintro e w1 ⟨⟨s,rfl,hs⟩,hb1⟩
  rw [hd] at hs
  have HB1:=hI (qad (bel1 w _) hb1)
  clear hb1
  go_wp2_with (go_at_call 64;refine (HF.out _).mono ?_;rintro e w2 ⟨v,rfl,hch,hb2⟩;have HCH:=hI hch;have HB2:=hI (qad HB1.out hb2);clear hch hb2)
  go_ret
  exact ⟨⟨v,rfl,by rw [HC.out];exact Or.inr ⟨by omega,by simpa using HCH.out⟩⟩,HB2.out⟩
 ·have HK:=hI hk
  have hd:decide (m.k < 1∨10 < m.k)=false:=by simpa using hk
  have h1:1≤m.k:=by omega
  have h2:m.k≤10:=by omega
  have HM:=hI hm
  have HMA0:=hI (fun W (h:Below w.heap.size w W)=>mayM_any m W (hm.next h) h1 h2)
  have HBA0:=hI (fun W=>bare_any m W h1 h2)
  have HSA0:=hI (fun W (h:Below w.heap.size w W)=>Same_any (qbq m) m W (hm.next h).bare (hm.next h))
  have HMV:Hid (∀ x,msgV x=.agg #[.int .i64 x.k,.int .i64 x.fr,.int .i64 x.id,.int .i64 x.t,.int .i64 x.bal,.int .i64 x.abal,.int .i64 x.ph,.int .i64 x.q,.string x.pay,.int .i64 x.lo,.int .i64 x.hi,.slice x.aA x.ats.size x.aC,.slice x.mA x.mks.size x.mC,.int .i64 x.dn]):=fun _=>rfl
  obtain ⟨bv,hbv⟩:∃ v,msgV (qbq m)=v:=⟨_,rfl⟩
  rw [hbv] at HBA0 HSA0
  unfold msgV at HMA0 HBA0 HSA0 ⊢
  clear hk hm h1 h2 hbv
  go_enter Tryz.func156,Tryz.ntmps156
  go_wp2_with fail
  refine (HN.out _).mono ?_
  rintro e w1 ⟨⟨s,rfl,hs⟩,hb1⟩
  rw [hd] at hs
  have hlt:w.heap.size < w1.heap.size:=by have:=hb1.size;simp at this;omega
  have q0:∀ p:ExtW w1,p.to.cell? ⟨w.heap.size,0,none⟩=some (.int .i64 m.k):=fun p=>(p.h.cell (p:=⟨w.heap.size,0,none⟩) hlt).trans ((hb1.cell (p:=⟨w.heap.size,0,none⟩) (by simp)).trans (by simp))
  have q1:∀ p:ExtW w1,p.to.cell? ⟨w.heap.size,1,none⟩=some (.int .i64 m.fr):=fun p=>(p.h.cell (p:=⟨w.heap.size,1,none⟩) hlt).trans ((hb1.cell (p:=⟨w.heap.size,1,none⟩) (by simp)).trans (by simp))
  have q2:∀ p:ExtW w1,p.to.cell? ⟨w.heap.size,2,none⟩=some (.int .i64 m.id):=fun p=>(p.h.cell (p:=⟨w.heap.size,2,none⟩) hlt).trans ((hb1.cell (p:=⟨w.heap.size,2,none⟩) (by simp)).trans (by simp))
  have q3:∀ p:ExtW w1,p.to.cell? ⟨w.heap.size,3,none⟩=some (.int .i64 m.t):=fun p=>(p.h.cell (p:=⟨w.heap.size,3,none⟩) hlt).trans ((hb1.cell (p:=⟨w.heap.size,3,none⟩) (by simp)).trans (by simp))
  have q4:∀ p:ExtW w1,p.to.cell? ⟨w.heap.size,4,none⟩=some (.int .i64 m.bal):=fun p=>(p.h.cell (p:=⟨w.heap.size,4,none⟩) hlt).trans ((hb1.cell (p:=⟨w.heap.size,4,none⟩) (by simp)).trans (by simp))
  have q5:∀ p:ExtW w1,p.to.cell? ⟨w.heap.size,5,none⟩=some (.int .i64 m.abal):=fun p=>(p.h.cell (p:=⟨w.heap.size,5,none⟩) hlt).trans ((hb1.cell (p:=⟨w.heap.size,5,none⟩) (by simp)).trans (by simp))
  have q6:∀ p:ExtW w1,p.to.cell? ⟨w.heap.size,6,none⟩=some (.int .i64 m.ph):=fun p=>(p.h.cell (p:=⟨w.heap.size,6,none⟩) hlt).trans ((hb1.cell (p:=⟨w.heap.size,6,none⟩) (by simp)).trans (by simp))
  have q7:∀ p:ExtW w1,p.to.cell? ⟨w.heap.size,7,none⟩=some (.int .i64 m.q):=fun p=>(p.h.cell (p:=⟨w.heap.size,7,none⟩) hlt).trans ((hb1.cell (p:=⟨w.heap.size,7,none⟩) (by simp)).trans (by simp))
  have q8:∀ p:ExtW w1,p.to.cell? ⟨w.heap.size,8,none⟩=some (.string m.pay):=fun p=>(p.h.cell (p:=⟨w.heap.size,8,none⟩) hlt).trans ((hb1.cell (p:=⟨w.heap.size,8,none⟩) (by simp)).trans (by simp))
  have q9:∀ p:ExtW w1,p.to.cell? ⟨w.heap.size,9,none⟩=some (.int .i64 m.lo):=fun p=>(p.h.cell (p:=⟨w.heap.size,9,none⟩) hlt).trans ((hb1.cell (p:=⟨w.heap.size,9,none⟩) (by simp)).trans (by simp))
  have q10:∀ p:ExtW w1,p.to.cell? ⟨w.heap.size,10,none⟩=some (.int .i64 m.hi):=fun p=>(p.h.cell (p:=⟨w.heap.size,10,none⟩) hlt).trans ((hb1.cell (p:=⟨w.heap.size,10,none⟩) (by simp)).trans (by simp))
  have q11:∀ p:ExtW w1,p.to.cell? ⟨w.heap.size,11,none⟩=some (.slice m.aA m.ats.size m.aC):=fun p=>(p.h.cell (p:=⟨w.heap.size,11,none⟩) hlt).trans ((hb1.cell (p:=⟨w.heap.size,11,none⟩) (by simp)).trans (by simp))
  have q12:∀ p:ExtW w1,p.to.cell? ⟨w.heap.size,12,none⟩=some (.slice m.mA m.mks.size m.mC):=fun p=>(p.h.cell (p:=⟨w.heap.size,12,none⟩) hlt).trans ((hb1.cell (p:=⟨w.heap.size,12,none⟩) (by simp)).trans (by simp))
  have q13:∀ p:ExtW w1,p.to.cell? ⟨w.heap.size,13,none⟩=some (.int .i64 m.dn):=fun p=>(p.h.cell (p:=⟨w.heap.size,13,none⟩) hlt).trans ((hb1.cell (p:=⟨w.heap.size,13,none⟩) (by simp)).trans (by simp))
  have HB1:=hI (qad (bel1 w _) hb1)
  have HMA:=hI (fun p:ExtW w1=>HMA0.out p.to (qad HB1.out p.h))
  have HBA:=hI (fun p:ExtW w1=>HBA0.out p.to)
  have HSA:=hI (fun p:ExtW w1=>HSA0.out p.to (qad HB1.out p.h))
  clear hb1 HMA0 HBA0 HSA0
  by_cases hf1:m.fr < 1
  ·have hf1':decide (m.fr < 1)=true:=by simp;omega
   have HC:Hid (chkM m=2):=by show _=_;unfold chkM;rw [if_neg HK.out];simp ;intro h;omega
   have HF:=hI (fun W=>qee msgW 2 W (by omega))
   go_wp2_with fail
   refine qai (by kernel_rfl) (by kernel_rfl) ?_
   repeat (first | go_big_quiet_step ((first | (go_at_call 166;exact Calls.ext_of (HBA.out _)) | (go_at_call 165;exact Calls.ext_of (HSA.out _)) | (go_at_call 167;exact Calls.ext_of (HMA.out _)))) | quiet_step ((first | (go_at_call 166;exact Calls.ext_of (HBA.out _)) | (go_at_call 165;exact Calls.ext_of (HSA.out _)) | (go_at_call 167;exact Calls.ext_of (HMA.out _)))))
   refine wpQuiet_nil ?_
   intro w' hw'
   obtain ⟨⟨W,hbW⟩,hw''⟩:=hw'
   have hw3:w'=W:=hw''
   subst hw3
   have HBW:=hI (qad HB1.out hbW)
   clear hbW hw''
   go_wp2_with (go_at_call 64;refine (HF.out _).mono ?_;rintro e w2 ⟨v,rfl,hch,hb2⟩;have HCH:=hI hch;have HB2:=hI (qad HBW.out hb2);clear hch hb2)
   go_ret
   exact ⟨⟨v,rfl,by rw [HC.out];exact Or.inr ⟨by omega,by simpa using HCH.out⟩⟩,HB2.out⟩
  by_cases hf2:9 < m.fr
  ·have hf1':decide (m.fr < 1)=false:=by simp;omega
   have hf2':decide (9 < m.fr)=true:=by simp;omega
   have HC:Hid (chkM m=2):=by show _=_;unfold chkM;rw [if_neg HK.out];simp ;intro h1 h;omega
   have HF:=hI (fun W=>qee msgW 2 W (by omega))
   go_wp2_with fail
   refine qai (by kernel_rfl) (by kernel_rfl) ?_
   repeat (first | go_big_quiet_step ((first | (go_at_call 166;exact Calls.ext_of (HBA.out _)) | (go_at_call 165;exact Calls.ext_of (HSA.out _)) | (go_at_call 167;exact Calls.ext_of (HMA.out _)))) | quiet_step ((first | (go_at_call 166;exact Calls.ext_of (HBA.out _)) | (go_at_call 165;exact Calls.ext_of (HSA.out _)) | (go_at_call 167;exact Calls.ext_of (HMA.out _)))))
   refine wpQuiet_nil ?_
   intro w' hw'
   obtain ⟨⟨W,hbW⟩,hw''⟩:=hw'
   have hw3:w'=W:=hw''
   subst hw3
   have HBW:=hI (qad HB1.out hbW)
   clear hbW hw''
   go_wp2_with (go_at_call 64;refine (HF.out _).mono ?_;rintro e w2 ⟨v,rfl,hch,hb2⟩;have HCH:=hI hch;have HB2:=hI (qad HBW.out hb2);clear hch hb2)
   go_ret
   exact ⟨⟨v,rfl,by rw [HC.out];exact Or.inr ⟨by omega,by simpa using HCH.out⟩⟩,HB2.out⟩
  have hf1':decide (m.fr < 1)=false:=by simp;omega
  have hf2':decide (9 < m.fr)=false:=by simp;omega
  have HFR:Hid (decide (1≤m.fr∧m.fr≤9)=true):=by show _=_;rw [decide_eq_true_iff];omega
  cases hsm:qfy (qbq m) m
  ·rw [hsm] at HSA
   have HC:Hid (chkM m=2):=by show _=_;unfold chkM;rw [if_neg HK.out];simp [hsm]
   have HF:=hI (fun W=>qee msgW 2 W (by omega))
   go_wp2_with fail
   refine qai (by kernel_rfl) (by kernel_rfl) ?_
   repeat (first | go_big_quiet_step ((first | (go_at_call 166;exact Calls.ext_of (HBA.out _)) | (go_at_call 165;exact Calls.ext_of (HSA.out _)) | (go_at_call 167;exact Calls.ext_of (HMA.out _)))) | quiet_step ((first | (go_at_call 166;exact Calls.ext_of (HBA.out _)) | (go_at_call 165;exact Calls.ext_of (HSA.out _)) | (go_at_call 167;exact Calls.ext_of (HMA.out _)))))
   refine wpQuiet_nil ?_
   intro w' hw'
   obtain ⟨⟨W,hbW⟩,hw''⟩:=hw'
   have hw3:w'=W:=hw''
   subst hw3
   have HBW:=hI (qad HB1.out hbW)
   clear hbW hw''
   go_wp2_with (go_at_call 64;refine (HF.out _).mono ?_;rintro e w2 ⟨v,rfl,hch,hb2⟩;have HCH:=hI hch;have HB2:=hI (qad HBW.out hb2);clear hch hb2)
   go_ret
   exact ⟨⟨v,rfl,by rw [HC.out];exact Or.inr ⟨by omega,by simpa using HCH.out⟩⟩,HB2.out⟩
  cases hmy:mayB m
  ·rw [hsm] at HSA
   rw [hmy] at HMA
   have HC:Hid (chkM m=2):=by show _=_;unfold chkM;rw [if_neg HK.out];simp [hmy]
   have HF:=hI (fun W=>qee msgW 2 W (by omega))
   go_wp2_with fail
   refine qai (by kernel_rfl) (by kernel_rfl) ?_
   repeat (first | go_big_quiet_step ((first | (go_at_call 166;exact Calls.ext_of (HBA.out _)) | (go_at_call 165;exact Calls.ext_of (HSA.out _)) | (go_at_call 167;exact Calls.ext_of (HMA.out _)))) | quiet_step ((first | (go_at_call 166;exact Calls.ext_of (HBA.out _)) | (go_at_call 165;exact Calls.ext_of (HSA.out _)) | (go_at_call 167;exact Calls.ext_of (HMA.out _)))))
   refine wpQuiet_nil ?_
   intro w' hw'
   obtain ⟨⟨W,hbW⟩,hw''⟩:=hw'
   have hw3:w'=W:=hw''
   subst hw3
   have HBW:=hI (qad HB1.out hbW)
   clear hbW hw''
   go_wp2_with (go_at_call 64;refine (HF.out _).mono ?_;rintro e w2 ⟨v,rfl,hch,hb2⟩;have HCH:=hI hch;have HB2:=hI (qad HBW.out hb2);clear hch hb2)
   go_ret
   exact ⟨⟨v,rfl,by rw [HC.out];exact Or.inr ⟨by omega,by simpa using HCH.out⟩⟩,HB2.out⟩
  ·rw [hsm] at HSA
   rw [hmy] at HMA
   have HC:Hid (chkM m=0):=by show _=_;unfold chkM;rw [if_neg HK.out,HFR.out,hsm,hmy];rfl
   go_wp2_with fail
   refine qai (by kernel_rfl) (by kernel_rfl) ?_
   repeat (first | go_big_quiet_step ((first | (go_at_call 166;exact Calls.ext_of (HBA.out _)) | (go_at_call 165;exact Calls.ext_of (HSA.out _)) | (go_at_call 167;exact Calls.ext_of (HMA.out _)))) | quiet_step ((first | (go_at_call 166;exact Calls.ext_of (HBA.out _)) | (go_at_call 165;exact Calls.ext_of (HSA.out _)) | (go_at_call 167;exact Calls.ext_of (HMA.out _)))))
   refine wpQuiet_nil ?_
   intro w' hw'
   obtain ⟨⟨W,hbW⟩,hw''⟩:=hw'
   have hw3:w'=W:=hw''
   subst hw3
   have HBW:=hI (qad HB1.out hbW)
   clear hbW hw''
   go_wp2
   go_ret
   exact ⟨⟨_,rfl,by rw [HC.out];exact Or.inl ⟨rfl,rfl,rfl⟩⟩,HBW.out⟩
end Go.Proofs.YtjkecckndfcbjaaGreatDoor
namespace Go.Proofs.YtjkecckndfcbjaaGreatDoor
open Go.RowKit Nb
structure OkM (m:PM):Prop where
 k:1≤m.k∧m.k≤10
 fr:1≤m.fr∧m.fr≤9
 id:0≤m.id∧m.id≤999999
 t:0≤m.t∧m.t≤1000000
 bal:0≤m.bal∧m.bal≤1000000
 abal:0≤m.abal∧m.abal≤1000000
 ph:0≤m.ph∧m.ph≤4
 q:0≤m.q∧m.q≤511
 pay:m.pay.size≤300
 lo:0≤m.lo∧m.lo≤1000000
 hi:0≤m.hi∧m.hi≤1000000
 dn:0≤m.dn∧m.dn≤1000000
 ats:m.ats.size≤200
 att:∀ a ∈ m.ats.toList,(0≤a.1∧a.1≤1000000)∧0≤a.2∧a.2≤999999
 mks:m.mks.size≤9
 mkv:∀ j,j < m.mks.size→0≤m.mks[j]!∧m.mks[j]!≤1000000
theorem attL_mem {hi:Int} (l:List (Int×Int)) (lo:Int) (h:attL hi lo l=true):∀ a ∈ l,(lo < a.1∧a.1≤hi)∧okId a.2=true:=by
 induction l generalizing lo with
 | nil=>intro a ha;simp at ha
 | cons b l ih =>
   unfold attL at h
   simp only [Bool.and_eq_true,decide_eq_true_eq] at h
   obtain ⟨⟨⟨h1,h2⟩,h3⟩,h4⟩:=h
   intro a ha
   rcases List.mem_cons.1 ha with rfl | ha
   ·exact ⟨⟨h1,h2⟩,h3⟩
   ·have:=ih b.1 h4 a ha
    exact ⟨⟨by omega,this.1.2⟩,this.2⟩
theorem okM_of {m:PM} (h:chkM m=0):OkM m:=by
 unfold chkM at h
 by_cases hk:m.k < 1∨10 < m.k
 ·rw [if_pos hk] at h;omega
 rw [if_neg hk] at h
 cases hA:(decide (1≤m.fr∧m.fr≤9) && qfy (qbq m) m && mayB m)
 ·rw [hA] at h;simp at h
 simp only [Bool.and_eq_true,decide_eq_true_eq] at hA
 obtain ⟨⟨hf,hs⟩,hm⟩:=hA
 unfold qfy at hs
 rw [decide_eq_true_eq] at hs
 obtain ⟨-,-,s1,s2,s3,s4,s5,s6,s7,s8,s9,s10,s11,s12⟩:=hs
 unfold qbq at s1 s2 s3 s4 s5 s6 s7 s8 s9 s10 s11 s12
 dsimp only at s1 s2 s3 s4 s5 s6 s7 s8 s9 s10 s11 s12
 unfold mayB at hm
 by_cases h10:m.k=10
 ·rw [if_pos h10] at hm
  unfold proB mksB at hm
  simp only [Bool.and_eq_true,decide_eq_true_eq] at hm
  obtain ⟨⟨⟨a1,a2,a3,a4,a5,a6,a7,a8⟩,b1,b2⟩,c1⟩:=hm
  simp [h10] at s1 s2 s3 s4 s5 s6 s7
  have e7:m.pay.size=0:=by rw [←s7];rfl
  refine ⟨by omega,hf,by omega,by omega,by omega,by omega,by omega,by omega,by omega,⟨a1,a2⟩,⟨a3,a4⟩,⟨a6,a7⟩,b2,?_,a8,?_⟩
  ·intro a ha
   have:=attL_mem _ _ b1 a ha
   have h2:=this.2
   unfold okId at h2
   rw [decide_eq_true_eq] at h2
   exact ⟨⟨by omega,by omega⟩,by omega,by omega⟩
  ·intro j hj
   have:=c1 j hj
   unfold qdd at this
   rw [decide_eq_true_eq] at this
   exact this
 ·rw [if_neg h10] at hm
  unfold okId qbj carB tolB at hm
  simp [h10] at s8 s9 s10 s11 s12
  have e11:m.ats.toList=[]:=by simp [s11]
  have e11':m.ats.size=0:=by simp [s11]
  have e12:m.mks.size=0:=by simp [s12]
  have hks:m.k=1∨m.k=2∨m.k=3∨m.k=4∨m.k=5∨m.k=6∨m.k=7∨m.k=8∨m.k=9:=by omega
  have hq:m.pay.size≤300∧(0≤m.id∧m.id≤999999)∧(0≤m.t∧m.t≤1000000)∧(0≤m.bal∧m.bal≤1000000)∧(0≤m.abal∧m.abal≤1000000)∧(0≤m.ph∧m.ph≤4)∧(0≤m.q∧m.q≤511):=by
   clear s8 s9 s10 s11 s12 s1
   rcases hks with e | e | e | e | e | e | e | e | e
   all_goals
    simp [e] at hm s2 s3 s4 s5 s6 s7
    try (have e7:m.pay.size=0:=by rw [←s7];rfl)
    omega
  obtain ⟨q1,q2,q3,q4,q5,q6,q7⟩:=hq
  refine ⟨by omega,hf,q2,q3,q4,q5,q6,q7,q1,by omega,by omega,by omega,by omega,?_,by omega,?_⟩
  ·intro a ha;rw [e11] at ha;simp at ha
  ·intro j hj;omega
def flA (d:List (Int×Int)):List Int:=d.flatMap fun a=>[a.1,a.2]
def m8 (m:PM):Array Int:=#[m.k,m.fr,m.id,m.t,m.bal,m.abal,m.ph,m.q]
def m3 (m:PM):Array Int:=#[m.lo,m.hi,m.dn]
def msgB (m:PM):List UInt8:=(nats (m8 m)).flatMap numB ++ qdf m.pay.data.toList ++ (nats (m3 m)).flatMap numB ++ rowB (nats (flA m.ats.toList).toArray) ++ rowB (nats m.mks)
theorem qeo {d:Array Int} (h:∀ x ∈ d.toList,0≤x∧x≤9223372036854775807):LayN d:=by
 intro i hi
 rw [getElem!_pos d i hi]
 exact h _ (by simp)
theorem OkM.l8 {m:PM} (h:OkM m):LayN (m8 m):=by
 obtain ⟨h1,h2,h3,h4,h5,h6,h7,h8,-⟩:=h
 refine qeo ?_
 intro x hx
 simp [m8] at hx
 omega
theorem OkM.l3 {m:PM} (h:OkM m):LayN (m3 m):=by
 have h1:=h.lo
 have h2:=h.hi
 have h3:=h.dn
 refine qeo ?_
 intro x hx
 simp [m3] at hx
 omega
theorem flA_len (l:List (Int×Int)):(flA l).length=2 * l.length:=by
 induction l with
 | nil=>rfl
 | cons a l ih=>unfold flA at *;simp at *;omega
theorem OkM.la {m:PM} (h:OkM m):LayN (flA m.ats.toList).toArray:=by
 refine qeo ?_
 intro x hx
 simp only [flA,List.mem_flatMap] at hx
 obtain ⟨a,ha,hx⟩:=hx
 have:=h.att a ha
 simp at hx
 omega
theorem OkM.lm {m:PM} (h:OkM m):LayN m.mks:=by
 intro i hi
 have:=h.mkv i hi
 omega
end Go.Proofs.YtjkecckndfcbjaaGreatDoor
namespace Go.Proofs.YtjkecckndfcbjaaGreatDoor
open Go.RowKit Nb
theorem chk_3 (m:PM):chkM m=0∨chkM m=2∨chkM m=30:=by
 unfold chkM
 split
 ·exact Or.inr (Or.inr rfl)
 split
 ·exact Or.inl rfl
 ·exact Or.inr (Or.inl rfl)
end Go.Proofs.YtjkecckndfcbjaaGreatDoor
namespace Go.Proofs.YtjkecckndfcbjaaGreatDoor
open Go.RowKit Nb
def WP (B b:Nat) (l:List UInt8) (W:World) (e:Ending) (w':World):Prop:=e=.returned (.tuple #[])∧Wrt B b l w'∧Below B W w'∧KeepT b W w'
theorem qcp (w:World) (o:Obj):(w.alloc o).heap[w.heap.size]?=some o:=by show (w.heap.push o)[w.heap.size]?=_;simp
theorem qhs (w:World) (a o:Obj):((w.alloc a).alloc o).heap[w.heap.size + 1]?=some o:=by
 have h:=qcp (w.alloc a) o
 have e:(w.alloc a).heap.size=w.heap.size + 1:=by simp
 rw [e] at h
 exact h
end Go.Proofs.YtjkecckndfcbjaaGreatDoor
namespace Go.Proofs.YtjkecckndfcbjaaGreatDoor
open Go.RowKit Nb
def qcj (s:List UInt8) (most:Nat):Nat→RS→RS×List Nat
 | 0,r=>(r,[])
 | k + 1,r=>((qcj s most k (numR s most r).1).1,(numR s most r).2 :: (qcj s most k (numR s most r).1).2)
theorem qdp (s:List UInt8) (most:Nat):∀ (k:Nat) (r:RS),(qcj s most k r).2.length=k
 | 0,_=>rfl
 | k + 1,r=>by rw [qcj];simp [qdp s most k]
theorem qiu (s:List UInt8) (most:Nat):∀ (k:Nat) (r:RS),qcj s most (k + 1) r=((numR s most (qcj s most k r).1).1,(qcj s most k r).2 ++ [(numR s most (qcj s most k r).1).2])
 | 0,r=>by simp [qcj]
 | k + 1,r=>by
   rw [qcj,qiu s most k (numR s most r).1]
   conv=>rhs;rw [qcj]
   simp
theorem qnw {s:List UInt8} {most:Nat}:∀ (k:Nat) (r:RS),(qcj s most k r).1.e=0→r.e=0∧s.drop r.pos=(qcj s most k r).2.flatMap numB ++ s.drop (qcj s most k r).1.pos∧(∀ n ∈ (qcj s most k r).2,n≤most)∧(r.pos≤s.length→(qcj s most k r).1.pos≤s.length)
 | 0,r,h=>⟨h,by simp [qcj],by simp [qcj],by simp [qcj]⟩
 | k + 1,r,h=>by
   rw [qcj] at h ⊢
   simp only at h ⊢
   obtain ⟨a1,a2,a3,a4⟩:=qnw k (numR s most r).1 h
   obtain ⟨b1,b2,b3,_,b5⟩:=qii (s:=s) (most:=most) (r:=r) (r':=(numR s most r).1) (n:=(numR s most r).2) rfl a1
   refine ⟨b1,?_,?_,fun h=>a4 (b5 h)⟩
   ·rw [b2,a2];simp
   ·intro n hn
    rcases List.mem_cons.1 hn with rfl | hn
    ·exact b3
    ·exact a3 n hn
theorem qjt (s:List UInt8) (most:Nat) (r:RS):(rowR s most r).2.length≤most:=by
 unfold rowR
 split
 ·simp
 ·split
  ·simp
  ·rename_i h;exact (qmx h).2
theorem qht (s:List UInt8) (most:Nat) (r:RS):(qcb s most r).2.length≤most:=by
 unfold qcb
 split
 ·simp
 ·split
  ·simp
  ·split
   ·simp
   ·split
    ·simp
    ·simp only [List.length_take];omega
structure Raw where
 r:RS
 n8:List Nat
 pay:List UInt8
 n3:List Nat
 l:List Nat
 ms:List Nat
def R8 (s:List UInt8):RS×List Nat:=qcj s 2000000 8 ⟨0,0⟩
def RT (s:List UInt8):RS×List UInt8:=qcb s 300 (R8 s).1
def R3 (s:List UInt8):RS×List Nat:=qcj s 2000000 3 (RT s).1
def RL (s:List UInt8):RS×List Nat:=rowR s 400 (R3 s).1
def RM (s:List UInt8):RS×List Nat:=rowR s 9 (RL s).1
def qbb (s:List UInt8):Raw:=⟨endR s (RM s).1,(R8 s).2,(RT s).2,(R3 s).2,(RL s).2,(RM s).2⟩
def unfl:List Nat→List (Int×Int)
 | a :: b :: l=>((a:Int),(b:Int)) :: unfl l
 | _=>[]
theorem qhu:∀ l:List Nat,(unfl l).length=l.length / 2
 | []=>rfl
 | [_]=>by simp [unfl]
 | a :: b :: l=>by simp [unfl,qhu l];omega
theorem qkz:∀ (l:List Nat) (k:Nat),2 * k + 1 < l.length→unfl (l.take (2 * (k + 1)))=unfl (l.take (2 * k)) ++ [(((l.getD (2 * k) 0:Nat):Int),((l.getD (2 * k + 1) 0:Nat):Int))]
 | [],k,h=>by simp at h
 | [_],k,h=>by simp at h
 | a :: b :: l,0,_=>by simp [unfl]
 | a :: b :: l,k + 1,h=>by
   have e1:2 * (k + 1 + 1)=2 * (k + 1) + 1 + 1:=by omega
   have e2:2 * (k + 1)=2 * k + 1 + 1:=by omega
   rw [e1,List.take_succ_cons,List.take_succ_cons,unfl,qkz l k (by simp at h;omega)]
   rw [e2,List.take_succ_cons,List.take_succ_cons,unfl]
   simp
theorem qnx:∀ (l:List Nat),unfl (l.take (2 * (l.length / 2)))=unfl l
 | []=>rfl
 | [_]=>by simp [unfl]
 | a :: b :: l=>by
   have e1:2 * ((a :: b :: l).length / 2)=2 * (l.length / 2) + 1 + 1:=by simp;omega
   rw [e1,List.take_succ_cons,List.take_succ_cons,unfl,unfl,qnx l]
theorem qup:∀ l:List Nat,l.length % 2=0→(flA (unfl l)).map Int.toNat=l
 | [],_=>rfl
 | [_],h=>by simp at h
 | a :: b :: l,h=>by
   have ih:=qup l (by simp at h;omega)
   unfold flA at ih ⊢
   simp [unfl,ih]
def pmOf (x:Raw) (aA:Option Addr) (aC:Nat) (mA:Option Addr) (mC:Nat):PM :=
 { k:=(x.n8.getD 0 0:Nat),fr:=(x.n8.getD 1 0:Nat),id:=(x.n8.getD 2 0:Nat),t:=(x.n8.getD 3 0:Nat),bal:=(x.n8.getD 4 0:Nat),abal:=(x.n8.getD 5 0:Nat),ph:=(x.n8.getD 6 0:Nat),q:=(x.n8.getD 7 0:Nat),
   pay:=⟨x.pay.toArray⟩,lo:=(x.n3.getD 0 0:Nat),hi:=(x.n3.getD 1 0:Nat),aA:=aA,aC:=aC,ats:=(unfl x.l).toArray,mA:=mA,mC:=mC,mks:=ints x.ms,dn:=(x.n3.getD 2 0:Nat) }
theorem chkM_at (x:Raw) (aA:Option Addr) (aC:Nat) (mA:Option Addr) (mC:Nat):chkM (pmOf x aA aC mA mC)=chkM (pmOf x none 0 none 0):=rfl
def qda (s:List UInt8):Nat:=if (qbb s).r.e≠0 then (qbb s).r.e else if (qbb s).l.length % 2≠0 then 5 else (chkM (pmOf (qbb s) none 0 none 0)).toNat
theorem nats_le {d:Array Int} {most:Nat} (h:∀ x ∈ d.toList,0≤x∧x≤most):∀ n ∈ nats d,n≤most:=by
 intro n hn
 unfold nats at hn
 obtain ⟨x,hx,rfl⟩:=List.mem_map.1 hn
 have:=h x hx
 omega
theorem RM_eq (s:List UInt8):rowR s 9 (RL s).1=((RM s).1,(RM s).2):=by show RM s=_;generalize RM s=x;rfl
theorem RL_eq (s:List UInt8):rowR s 400 (R3 s).1=((RL s).1,(RL s).2):=by show RL s=_;generalize RL s=x;rfl
theorem RT_eq (s:List UInt8):qcb s 300 (R8 s).1=((RT s).1,(RT s).2):=by show RT s=_;generalize RT s=x;rfl
theorem R3_eq (s:List UInt8):qcj s 2000000 3 (RT s).1=R3 s:=rfl
theorem R8_eq (s:List UInt8):qcj s 2000000 8 ⟨0,0⟩=R8 s:=rfl
theorem raw_r (s:List UInt8):(qbb s).r=endR s (RM s).1:=by simp only [qbb]
theorem raw_ok (s:List UInt8) (h:(qbb s).r.e=0):s=(qbb s).n8.flatMap numB ++ qdf (qbb s).pay ++ (qbb s).n3.flatMap numB ++ rowB (qbb s).l ++ rowB (qbb s).ms∧(qbb s).n8.length=8∧(qbb s).n3.length=3:=by
 rw [raw_r] at h
 have hM:(RM s).1.e=0∧(RM s).1.pos ≥ s.length:=by
  generalize (RM s).1=x at h
  unfold endR at h
  split at h
  ·simp at h
  ·rename_i hn;exact ⟨h,by omega⟩
 obtain ⟨m1,m2,_,_,_⟩:=rowR_ok (RM_eq s) hM.1
 obtain ⟨l1,l2,_,_,_⟩:=rowR_ok (RL_eq s) m1
 have k3:=qnw (s:=s) (most:=2000000) 3 (RT s).1
 rw [R3_eq] at k3
 obtain ⟨c1,c2,_,_⟩:=k3 l1
 obtain ⟨t1,t2,_,_⟩:=qmv (RT_eq s) c1
 have k8:=qnw (s:=s) (most:=2000000) 8 ⟨0,0⟩
 rw [R8_eq] at k8
 obtain ⟨a1,a2,_,_⟩:=k8 t1
 have e0:s.drop (RM s).1.pos=[]:=List.drop_eq_nil_of_le hM.2
 have n8:=qdp s 2000000 8 ⟨0,0⟩
 rw [R8_eq] at n8
 have n3:=qdp s 2000000 3 (RT s).1
 rw [R3_eq] at n3
 refine ⟨?_,by simpa only [qbb] using n8,by simpa only [qbb] using n3⟩
 have a3:s=(R8 s).2.flatMap numB ++ s.drop (R8 s).1.pos:=a2
 simp only [qbb]
 rw [t2,c2,l2,m2,e0] at a3
 simp only [List.append_nil,←List.append_assoc] at a3
 exact a3
theorem nats_ints (l:List Nat):nats (ints l)=l:=by
 unfold nats ints
 simp [Function.comp_def]
theorem list8 {l:List Nat} (h:l.length=8):l=[l.getD 0 0,l.getD 1 0,l.getD 2 0,l.getD 3 0,l.getD 4 0,l.getD 5 0,l.getD 6 0,l.getD 7 0]:=by
 match l,h with
 | [a,b,c,d,e,f,g,i],_=>rfl
theorem list3 {l:List Nat} (h:l.length=3):l=[l.getD 0 0,l.getD 1 0,l.getD 2 0]:=by
 match l,h with
 | [a,b,c],_=>rfl
theorem msgB_raw (s:List UInt8) (h:(qbb s).r.e=0) (h2:(qbb s).l.length % 2=0) (aA:Option Addr) (aC:Nat) (mA:Option Addr) (mC:Nat):msgB (pmOf (qbb s) aA aC mA mC)=s:=by
 obtain ⟨h1,l8,l3⟩:=raw_ok s h
 generalize qbb s=x at h1 h2 l8 l3
 unfold msgB
 have e8:nats (m8 (pmOf x aA aC mA mC))=x.n8:=by
  conv=>rhs;rw [list8 l8]
  simp [nats,m8,pmOf]
 have e3:nats (m3 (pmOf x aA aC mA mC))=x.n3:=by
  conv=>rhs;rw [list3 l3]
  simp [nats,m3,pmOf]
 have eL:nats (flA (pmOf x aA aC mA mC).ats.toList).toArray=x.l:=by
  show (flA (unfl x.l).toArray.toList).toArray.toList.map Int.toNat=x.l
  simp [qup x.l h2]
 have eM:nats (pmOf x aA aC mA mC).mks=x.ms:=nats_ints _
 have eP:(pmOf x aA aC mA mC).pay.data.toList=x.pay:=by simp [pmOf]
 rw [e8,e3,eL,eM,eP]
 exact h1.symm
theorem takeC_ok {s:List UInt8} (h:qda s=0) (aA:Option Addr) (aC:Nat) (mA:Option Addr) (mC:Nat):(qbb s).r.e=0∧(qbb s).l.length % 2=0∧chkM (pmOf (qbb s) aA aC mA mC)=0∧msgB (pmOf (qbb s) aA aC mA mC)=s:=by
 unfold qda at h
 split at h
 ·contradiction
 ·rename_i h1
  split at h
  ·omega
  ·rename_i h2
   have h1':(qbb s).r.e=0:=by omega
   have h2':(qbb s).l.length % 2=0:=by omega
   refine ⟨h1',h2',?_,msgB_raw s h1' h2' _ _ _ _⟩
   rw [chkM_at]
   rcases chk_3 (pmOf (qbb s) none 0 none 0) with h' | h' | h'
   ·exact h'
   ·rw [h'] at h;simp at h
   ·rw [h'] at h;simp at h
end Go.Proofs.YtjkecckndfcbjaaGreatDoor
namespace Go.Proofs.YtjkecckndfcbjaaGreatDoor
open Go.RowKit Nb
structure PR where
 ep:Int
 sq:Int
 sn:Bool
 k:Int
 dt:ByteArray
 st:ByteArray
def zR:PR:=⟨0,0,false,0,⟨#[]⟩,⟨#[]⟩⟩
def evC (k:Int) (d:ByteArray):Nat:=if k=1 then (if d.size≤300 then 0 else 2) else if k=2 then (if qda d.data.toList=0 then 0 else 2) else if k=3 then (if d.size=0 then 0 else 2) else 30
def qsn (r:PR):Bool:=decide (1≤r.ep) && decide (r.ep≤1000000) && decide (0≤r.sq) && decide (r.sq≤1000000) && (r.sn == (r.sq == 0))
def qso (r:PR):Bool:=if r.sn then decide (r.k=0) && decide (r.dt.size=0) && decide (r.st.size≤18000) else decide (evC r.k r.dt=0) && decide (r.st.size=0)
def recC (r:PR):Nat:=if qsn r && qso r then 0 else 2
theorem qla (r:PR):recC r=0∨recC r=2:=by unfold recC;split <;> simp
theorem evC_3 (k:Int) (d:ByteArray):evC k d=0∨evC k d=2∨evC k d=30:=by unfold evC;(repeat' split) <;> simp
def recB (r:PR):List UInt8:=numB r.ep.toNat ++ numB r.sq.toNat ++ qer r.sn ++ (if r.sn then qdf r.st.data.toList else numB r.k.toNat ++ qdf r.dt.data.toList)
def recA (s:List UInt8):RS×Nat:=numR s 1000000 ⟨0,0⟩
def recQ (s:List UInt8):RS×Nat:=numR s 1000000 (recA s).1
def recF (s:List UInt8):RS×Bool:=qdu s (recQ s).1
def recS (s:List UInt8):RS×List UInt8:=qcb s 18000 (recF s).1
def recK (s:List UInt8):RS×Nat:=numR s 9 (recF s).1
def recD (s:List UInt8):RS×List UInt8:=qcb s 5000 (recK s).1
def recR (s:List UInt8):RS:=if (recF s).2 then endR s (recS s).1 else endR s (recD s).1
def recO (s:List UInt8):PR:=if (recF s).2 then ⟨(recA s).2,(recQ s).2,true,0,⟨#[]⟩,⟨(recS s).2.toArray⟩⟩ else ⟨(recA s).2,(recQ s).2,false,(recK s).2,⟨(recD s).2.toArray⟩,⟨#[]⟩⟩
def rtC (s:List UInt8):Nat:=if (recR s).e≠0 then (recR s).e else recC (recO s)
theorem ba_eq (b:ByteArray):(⟨b.data.toList.toArray⟩:ByteArray)=b:=by cases b;simp
theorem ba_nil {b:ByteArray} (h:b.size=0):b=⟨#[]⟩:=by
 cases b with
 | mk d=>have:d.size=0:=h;rw [Array.eq_empty_of_size_eq_zero this]
theorem evC_k {k:Int} {d:ByteArray} (h:evC k d=0):1≤k∧k≤3:=by
 unfold evC at h
 (repeat' split at h) <;> first | omega | cases h
theorem qqg (l:List Nat):(∀ n ∈ l,n≤2000000)→(l.flatMap numB).length≤9 * l.length:=by
 intro h
 induction l with
 | nil=>simp
 | cons n l ih =>
   have h1:=qax n (by have:=h n (by simp);omega)
   have h2:=ih (fun x hx=>h x (by simp [hx]))
   rw [List.flatMap_cons,List.length_append,List.length_cons]
   omega
theorem takeC_len {s:List UInt8} (h:qda s=0):s.length≤4300:=by
 obtain ⟨_,_,h3,h4⟩:=takeC_ok h none 0 none 0
 have hok:=okM_of h3
 generalize pmOf (qbb s) none 0 none 0=m at h3 h4 hok
 rw [←h4]
 have hla:(nats (flA m.ats.toList).toArray).length≤400:=by
  have:=hok.ats
  rw [qdy,List.size_toArray,flA_len]
  simp
  omega
 have hlm:(nats m.mks).length≤9:=by rw [qdy];exact hok.mks
 have f1:=qdx (nats (flA m.ats.toList).toArray) hok.la.nats
 have f2:=qdx (nats m.mks) hok.lm.nats
 have l8:(nats (m8 m)).length=8:=by rw [qdy];rfl
 have l3:(nats (m3 m)).length=3:=by rw [qdy];rfl
 have b8:∀ n ∈ nats (m8 m),n≤2000000:=nats_le (by
  intro x hx
  obtain ⟨h1,h2,h3,h4,h5,h6,h7,h8,-⟩:=hok
  simp [m8] at hx
  omega)
 have b3:∀ n ∈ nats (m3 m),n≤2000000:=nats_le (by
  intro x hx
  have h1:=hok.lo
  have h2:=hok.hi
  have h3:=hok.dn
  simp [m3] at hx
  omega)
 have g8:=qqg _ b8
 have g3:=qqg _ b3
 have hp:=hok.pay
 have q1:=qax m.pay.data.toList.length (by simp;omega)
 have q2:=qax (nats (flA m.ats.toList).toArray).length (by omega)
 have q3:=qax (nats m.mks).length (by omega)
 have hpl:m.pay.data.toList.length=m.pay.size:=by simp
 unfold msgB qdf rowB
 simp only [List.length_append]
 omega
theorem evC_len {k:Int} {d:ByteArray} (h:evC k d=0):d.size≤5000:=by
 unfold evC at h
 split at h
 ·split at h
  ·omega
  ·cases h
 ·split at h
  ·split at h
   ·rename_i h2
    have:=takeC_len h2
    have e:d.data.toList.length=d.size:=by simp
    omega
   ·cases h
  ·split at h
   ·split at h
    ·omega
    ·cases h
   ·cases h
theorem qfv {r:PR} (h:recC r=0):1≤r.ep∧r.ep≤1000000∧0≤r.sq∧r.sq≤1000000∧(r.sn=true→r.k=0∧r.dt=⟨#[]⟩∧r.st.size≤18000)∧(r.sn=false→1≤r.k∧r.k≤3∧r.dt.size≤5000∧r.st=⟨#[]⟩):=by
 unfold recC at h
 split at h
 ·rename_i hh
  obtain ⟨h1,h2⟩:=(Bool.and_eq_true _ _).mp hh
  unfold qsn at h1
  unfold qso at h2
  simp only [Bool.and_eq_true,decide_eq_true_eq] at h1
  refine ⟨by omega,by omega,by omega,by omega,fun hs=>?_,fun hs=>?_⟩
  ·rw [hs] at h2
   simp only [if_true,Bool.and_eq_true,decide_eq_true_eq] at h2
   exact ⟨h2.1.1,ba_nil h2.1.2,h2.2⟩
  ·rw [hs] at h2
   simp only [Bool.false_eq_true,if_false,Bool.and_eq_true,decide_eq_true_eq] at h2
   have:=evC_k h2.1
   exact ⟨by omega,by omega,evC_len h2.1,ba_nil h2.2⟩
 ·cases h
theorem rec_laid (r:PR) (h:recC r=0) (t:List UInt8):recR (recB r ++ t)=endR (recB r ++ t) ⟨(recB r).length,0⟩∧recO (recB r ++ t)=r:=by
 obtain ⟨h1,h2,h3,h4,hT,hF⟩:=qfv h
 generalize hs:recB r ++ t=s
 have hs':=hs
 unfold recB at hs
 simp only [List.append_assoc] at hs
 have eA:=qkb (most:=1000000) (r:=⟨0,0⟩) (s:=s) rfl hs.symm (by omega) (by omega)
 have dA:=qgb (r:=⟨0,0⟩) (s:=s) hs.symm
 have eQ:=qkb (most:=1000000) (r:=⟨0 + (numB r.ep.toNat).length,0⟩) (s:=s) rfl dA (by omega) (by omega)
 have dQ:=qgb (r:=⟨0 + (numB r.ep.toNat).length,0⟩) (s:=s) dA
 have eF:=qwg (r:=⟨0 + (numB r.ep.toNat).length + (numB r.sq.toNat).length,0⟩) (s:=s) rfl dQ
 have dF:=qgb (r:=⟨0 + (numB r.ep.toNat).length + (numB r.sq.toNat).length,0⟩) (s:=s) dQ
 have lF:(qer r.sn).length=1:=by cases r.sn <;> rfl
 rw [lF] at dF
 have xA:recA s=(⟨0 + (numB r.ep.toNat).length,0⟩,r.ep.toNat):=eA
 have xQ:recQ s=(⟨0 + (numB r.ep.toNat).length + (numB r.sq.toNat).length,0⟩,r.sq.toNat):=by unfold recQ;rw [xA];exact eQ
 have xF:recF s=(⟨0 + (numB r.ep.toNat).length + (numB r.sq.toNat).length + 1,0⟩,r.sn):=by unfold recF;rw [xQ];exact eF
 cases hsn:r.sn
 ·obtain ⟨k1,k3,hd,hst⟩:=hF hsn
  rw [hsn] at dF xF
  simp only [Bool.false_eq_true,if_false,List.append_assoc] at dF
  have hdl:r.dt.data.toList.length=r.dt.size:=by simp
  have eK:=qkb (most:=9) (r:=⟨0 + (numB r.ep.toNat).length + (numB r.sq.toNat).length + 1,0⟩) (s:=s) rfl dF (by omega) (by omega)
  have dK:=qgb (r:=⟨0 + (numB r.ep.toNat).length + (numB r.sq.toNat).length + 1,0⟩) (s:=s) dF
  have eD:=qlv (most:=5000) (r:=⟨0 + (numB r.ep.toNat).length + (numB r.sq.toNat).length + 1 + (numB r.k.toNat).length,0⟩) (s:=s) rfl dK (by omega) (by omega)
  have xK:recK s=(⟨0 + (numB r.ep.toNat).length + (numB r.sq.toNat).length + 1 + (numB r.k.toNat).length,0⟩,r.k.toNat):=by unfold recK;rw [xF];exact eK
  have xD:recD s=(⟨0 + (numB r.ep.toNat).length + (numB r.sq.toNat).length + 1 + (numB r.k.toNat).length + (qdf r.dt.data.toList).length,0⟩,r.dt.data.toList):=by unfold recD;rw [xK];exact eD
  constructor
  ·unfold recR
   rw [xF,xD]
   simp only [Bool.false_eq_true,if_false]
   congr 2
   unfold recB
   rw [hsn]
   simp only [List.length_append,Bool.false_eq_true,if_false]
   have:(qer false).length=1:=rfl
   omega
  ·unfold recO
   rw [xF,xA,xQ,xK,xD]
   simp only [Bool.false_eq_true,if_false,ba_eq]
   obtain ⟨ep,sq,sn,k,dt,st⟩:=r
   simp only at h1 h3 k1 hst hsn
   subst hst hsn
   have y1:((ep.toNat:Nat):Int)=ep:=Int.toNat_of_nonneg (by omega)
   have y2:((sq.toNat:Nat):Int)=sq:=Int.toNat_of_nonneg h3
   have y3:((k.toNat:Nat):Int)=k:=Int.toNat_of_nonneg (by omega)
   simp only [y1,y2,y3]
 ·obtain ⟨k1,hd,hst⟩:=hT hsn
  rw [hsn] at dF xF
  simp only [if_true] at dF
  have hdl:r.st.data.toList.length=r.st.size:=by simp
  have eS:=qlv (most:=18000) (r:=⟨0 + (numB r.ep.toNat).length + (numB r.sq.toNat).length + 1,0⟩) (s:=s) rfl dF (by omega) (by omega)
  have xS:recS s=(⟨0 + (numB r.ep.toNat).length + (numB r.sq.toNat).length + 1 + (qdf r.st.data.toList).length,0⟩,r.st.data.toList):=by unfold recS;rw [xF];exact eS
  constructor
  ·unfold recR
   rw [xF,xS]
   simp only [if_true]
   congr 2
   unfold recB
   rw [hsn]
   simp only [List.length_append,if_true]
   have:(qer true).length=1:=rfl
   omega
  ·unfold recO
   rw [xF,xA,xQ,xS]
   simp only [if_true,ba_eq]
   obtain ⟨ep,sq,sn,k,dt,st⟩:=r
   simp only at h1 h3 k1 hd hsn
   subst k1 hd hsn
   have y1:((ep.toNat:Nat):Int)=ep:=Int.toNat_of_nonneg (by omega)
   have y2:((sq.toNat:Nat):Int)=sq:=Int.toNat_of_nonneg h3
   simp only [y1,y2]
theorem recA_eq (s:List UInt8):numR s 1000000 ⟨0,0⟩=((recA s).1,(recA s).2):=rfl
theorem recQ_eq (s:List UInt8):numR s 1000000 (recA s).1=((recQ s).1,(recQ s).2):=rfl
theorem recF_eq (s:List UInt8):qdu s (recQ s).1=((recF s).1,(recF s).2):=rfl
theorem recS_eq (s:List UInt8):qcb s 18000 (recF s).1=((recS s).1,(recS s).2):=rfl
theorem recK_eq (s:List UInt8):numR s 9 (recF s).1=((recK s).1,(recK s).2):=rfl
theorem recD_eq (s:List UInt8):qcb s 5000 (recK s).1=((recD s).1,(recD s).2):=rfl
theorem endR_ok {s:List UInt8} {r:RS} (h:(endR s r).e=0):r.e=0∧s.drop r.pos=[]:=by
 unfold endR at h
 split at h
 ·simp at h
 ·rename_i hn;exact ⟨h,List.drop_eq_nil_of_le (by omega)⟩
theorem rec_ok (s:List UInt8) (h:(recR s).e=0):recB (recO s)=s:=by
 unfold recR at h
 unfold recO
 cases hf:(recF s).2
 ·rw [hf] at h
  simp only [Bool.false_eq_true,if_false] at h ⊢
  obtain ⟨e1,e0⟩:=endR_ok h
  obtain ⟨d1,d2,-⟩:=qmv (recD_eq s) e1
  obtain ⟨k1,k2,-⟩:=qii (recK_eq s) d1
  obtain ⟨f1,f2,-⟩:=qmw (recF_eq s) k1
  obtain ⟨q1,q2,-⟩:=qii (recQ_eq s) f1
  obtain ⟨-,a2,-⟩:=qii (recA_eq s) q1
  have a3:s=numB (recA s).2 ++ s.drop (recA s).1.pos:=a2
  rw [q2,f2,k2,d2,e0,hf] at a3
  unfold recB
  simp only [Bool.false_eq_true,if_false,Int.toNat_natCast]
  conv=>rhs;rw [a3]
  simp
 ·rw [hf] at h
  simp only [if_true] at h ⊢
  obtain ⟨e1,e0⟩:=endR_ok h
  obtain ⟨d1,d2,-⟩:=qmv (recS_eq s) e1
  obtain ⟨f1,f2,-⟩:=qmw (recF_eq s) d1
  obtain ⟨q1,q2,-⟩:=qii (recQ_eq s) f1
  obtain ⟨-,a2,-⟩:=qii (recA_eq s) q1
  have a3:s=numB (recA s).2 ++ s.drop (recA s).1.pos:=a2
  rw [q2,f2,d2,e0,hf] at a3
  unfold recB
  simp only [if_true,Int.toNat_natCast]
  conv=>rhs;rw [a3]
  simp
theorem quq (r:PR) (h:recC r=0):rtC (recB r)=0∧recO (recB r)=r:=by
 obtain ⟨e1,e2⟩:=rec_laid r h []
 rw [List.append_nil] at e1 e2
 refine ⟨?_,e2⟩
 unfold rtC
 rw [e1,e2,h]
 simp [endR]
theorem rtC_ok {s:List UInt8} (h:rtC s=0):(recR s).e=0∧recC (recO s)=0∧recB (recO s)=s:=by
 unfold rtC at h
 split at h
 ·contradiction
 ·rename_i h1
  have h1':(recR s).e=0:=by omega
  exact ⟨h1',h,rec_ok s h1'⟩
end Go.Proofs.YtjkecckndfcbjaaGreatDoor
namespace Go.Proofs.YtjkecckndfcbjaaGreatDoor
open Nb Crc
abbrev EV:=Int×ByteArray
def snR (ep:Nat) (st:ByteArray):PR:=⟨ep,0,true,0,⟨#[]⟩,st⟩
def evR (ep i:Nat) (e:EV):PR:=⟨ep,i,false,e.1,e.2,⟨#[]⟩⟩
def evsB (ep:Nat):Nat→List EV→List (List UInt8)
 | _,[]=>[]
 | i,e :: l=>recB (evR ep i e) :: evsB ep (i + 1) l
def evsC (ep:Nat):Nat→List EV→Nat
 | _,[]=>0
 | i,e :: l=>if recC (evR ep i e)≠0 then 2 else evsC ep (i + 1) l
def ptB (ep:Nat) (st:ByteArray) (evs:List EV):List (List UInt8):=recB (snR ep st) :: evsB ep 1 evs
def ptF (ep:Nat) (st:ByteArray) (evs:List EV):List UInt8:=(ptB ep st evs).flatMap qak
def ptC (ep:Nat) (st:ByteArray) (evs:List EV):Nat:=if recC (snR ep st)≠0 then 2 else evsC ep 1 evs
structure TL where
 ep:Nat
 st:ByteArray
 evs:List EV
 n:Nat
def zT:TL:=⟨0,⟨#[]⟩,[],0⟩
def qgs (t:TL) (i:Nat) (b:List UInt8):Bool:=decide (rtC b=0) && ((recO b).sn == decide (i=0)) && (decide (i=0) || (decide ((recO b).ep=(t.ep:Int)) && decide ((recO b).sq=(i:Int))))
def qiv (t:TL) (i:Nat) (b:List UInt8):TL:=if i=0 then ⟨(recO b).ep.toNat,(recO b).st,t.evs,t.n + (qak b).length⟩ else ⟨t.ep,t.st,t.evs ++ [((recO b).k,(recO b).dt)],t.n + (qak b).length⟩
def qeb:TL→Nat→List (List UInt8)→TL
 | t,_,[]=>t
 | t,i,b :: l=>if qgs t i b then qeb (qiv t i b) (i + 1) l else t
def qdh (s:List UInt8):TL:=qeb zT 0 (allL s).1
theorem qgn {r:PR} (h:recC r=0):(recB r).length≤18100:=by
 obtain ⟨h1,h2,h3,h4,h5,h6⟩:=qfv h
 have q1:=qax r.ep.toNat (by omega)
 have q2:=qax r.sq.toNat (by omega)
 have q3:(qer r.sn).length=1:=by cases r.sn <;> rfl
 unfold recB qdf
 simp only [List.length_append]
 split
 ·rename_i hs
  obtain ⟨-,-,h7⟩:=h5 hs
  have e:r.st.data.toList.length=r.st.size:=by simp
  have q4:=qax r.st.data.toList.length (by omega)
  simp only [List.length_append]
  omega
 ·rename_i hs
  obtain ⟨h7,h8,h9,-⟩:=h6 (by simpa using hs)
  have e:r.dt.data.toList.length=r.dt.size:=by simp
  have q4:=qax r.dt.data.toList.length (by omega)
  have q5:=qax r.k.toNat (by omega)
  simp only [List.length_append]
  omega
theorem qfk {ep i:Nat} {e:EV} {l:List EV} (h:evsC ep i (e :: l)=0):recC (evR ep i e)=0∧evsC ep (i + 1) l=0:=by
 unfold evsC at h
 split at h
 ·cases h
 ·rename_i h1
  exact ⟨by omega,h⟩
theorem qur {ep:Nat}:∀ (i:Nat) (l:List EV),evsC ep i l=0→∀ b ∈ evsB ep i l,b.length≤20000
 | _,[],_,b,hb=>by cases hb
 | i,e :: l,h,b,hb=>by
   obtain ⟨h1,h2⟩:=qfk h
   rcases List.mem_cons.1 hb with rfl | hb
   ·have:=qgn h1;omega
   ·exact qur (i + 1) l h2 b hb
theorem qqh {ep:Nat} {st:ByteArray} {evs:List EV} (h:ptC ep st evs=0):recC (snR ep st)=0∧evsC ep 1 evs=0:=by
 unfold ptC at h
 split at h
 ·cases h
 ·rename_i h1
  exact ⟨by omega,h⟩
theorem ptB_few {ep:Nat} {st:ByteArray} {evs:List EV} (h:ptC ep st evs=0):∀ b ∈ ptB ep st evs,b.length≤20000:=by
 obtain ⟨h1,h2⟩:=qqh h
 intro b hb
 rcases List.mem_cons.1 hb with rfl | hb
 ·have:=qgn h1;omega
 ·exact qur 1 evs h2 b hb
theorem qqi {ep:Nat} {st:ByteArray}:∀ (l:List EV) (i n:Nat) (es:List EV),evsC ep (i + 1) l=0→qeb ⟨ep,st,es,n⟩ (i + 1) (evsB ep (i + 1) l)=⟨ep,st,es ++ l,n + ((evsB ep (i + 1) l).flatMap qak).length⟩
 | [],i,n,es,_=>by simp [qeb,evsB]
 | e :: l,i,n,es,h=>by
   obtain ⟨h1,h2⟩:=qfk h
   obtain ⟨r1,r2⟩:=quq _ h1
   have hn:qgs ⟨ep,st,es,n⟩ (i + 1) (recB (evR ep (i + 1) e))=true:=by
    unfold qgs
    rw [r1,r2]
    simp [evR]
   have hw:qiv ⟨ep,st,es,n⟩ (i + 1) (recB (evR ep (i + 1) e))=⟨ep,st,es ++ [e],n + (qak (recB (evR ep (i + 1) e))).length⟩:=by
    unfold qiv
    rw [r2,if_neg (by omega)]
    rfl
   rw [evsB,qeb,if_pos hn,hw,qqi l (i + 1) _ _ h2,List.flatMap_cons,List.length_append]
   simp only [List.append_assoc,List.cons_append,List.nil_append,Nat.add_assoc]
theorem tellS_pt {ep:Nat} {st:ByteArray} {evs:List EV} (h:ptC ep st evs=0):qeb zT 0 (ptB ep st evs)=⟨ep,st,evs,(ptF ep st evs).length⟩:=by
 obtain ⟨h1,h2⟩:=qqh h
 obtain ⟨r1,r2⟩:=quq _ h1
 have hn:qgs zT 0 (recB (snR ep st))=true:=by
  unfold qgs
  rw [r1,r2]
  simp [snR]
 have hw:qiv zT 0 (recB (snR ep st))=⟨ep,st,[],0 + (qak (recB (snR ep st))).length⟩:=by
  unfold qiv
  rw [r2,if_pos rfl]
  rfl
 unfold ptB ptF
 rw [qeb,if_pos hn,hw,qqi evs 0 _ _ h2]
 unfold ptB
 rw [List.flatMap_cons,List.length_append]
 simp
theorem evsC_of {ep i:Nat} {e:EV} {l:List EV} (h:recC (evR ep i e)=0) (h':evsC ep (i + 1) l=0):evsC ep i (e :: l)=0:=by
 unfold evsC
 rw [if_neg (by rw [h];simp)]
 exact h'
theorem evsC_snoc {ep:Nat} (l:List EV) (e:EV):∀ (i n:Nat),n=i + l.length→evsC ep i l=0→recC (evR ep n e)=0→evsC ep i (l ++ [e])=0:=by
 induction l with
 | nil =>
   intro i n hn _ h
   obtain rfl:n=i:=hn
   exact evsC_of h rfl
 | cons x l ih =>
   intro i n hn h h'
   obtain ⟨h1,h2⟩:=qfk h
   exact evsC_of h1 (ih (i + 1) n (by rw [hn,List.length_cons];omega) h2 h')
theorem qqj (ep:Nat):∀ (i:Nat) (l:List EV) (e:EV),evsB ep i (l ++ [e])=evsB ep i l ++ [recB (evR ep (i + l.length) e)]
 | i,[],e=>rfl
 | i,x :: l,e=>by
   have e1:i + 1 + l.length=i + (x :: l).length:=by rw [List.length_cons];omega
   rw [List.cons_append,evsB,evsB,qqj ep (i + 1) l e,List.cons_append,e1]
theorem ptF_snoc (ep:Nat) (st:ByteArray) (l:List EV) (e:EV):ptF ep st (l ++ [e])=ptF ep st l ++ qak (recB (evR ep (l.length + 1) e)):=by
 unfold ptF ptB
 rw [qqj,Nat.add_comm 1]
 simp
theorem ptC_snoc {ep:Nat} {st:ByteArray} {l:List EV} {e:EV} (h:ptC ep st l=0) (h':recC (evR ep (l.length + 1) e)=0):ptC ep st (l ++ [e])=0:=by
 obtain ⟨h1,h2⟩:=qqh h
 unfold ptC
 rw [if_neg (by omega)]
 exact evsC_snoc l e 1 _ (Nat.add_comm _ _) h2 h'
theorem tellL_pt {ep:Nat} {st:ByteArray} {evs:List EV} (h:ptC ep st evs=0):qdh (ptF ep st evs)=⟨ep,st,evs,(ptF ep st evs).length⟩:=by
 unfold qdh
 have:=qkh [] (ptB ep st evs) (ptB_few h)
 rw [List.append_nil,qto] at this
 unfold ptF at *
 rw [this]
 show qeb zT 0 (ptB ep st evs ++ [])=_
 rw [List.append_nil]
 exact tellS_pt h
theorem qqk:qdh []=zT:=by unfold qdh;rw [qto];rfl
structure LG where
 d:DK
 file:Nat
 ep:Nat
 sq:Nat
 shut:Bool
def shutG (l:LG) (d:DK) (e:Nat):LG×Nat:=(⟨d,l.file,l.ep,l.sq,l.shut || e == 20⟩,e)
def layG (l:LG) (ep:Nat) (bs:ByteArray) (k:Nat):LG×Nat :=
 if l.d.dead then shutG l l.d 20 else
 if l.d.off then shutG l (qby l.d (1 - l.file)) 20 else
 if (qby l.d (1 - l.file)).room < (qby l.d (1 - l.file)).f0.s.size + (qby l.d (1 - l.file)).f1.s.size + bs.size then shutG l (qby l.d (1 - l.file)) 22 else
 if (qby l.d (1 - l.file)).off then shutG l (appD (qby l.d (1 - l.file)) (1 - l.file) bs) 20 else
 if (appD (qby l.d (1 - l.file)) (1 - l.file) bs).off then shutG l (qfq (appD (qby l.d (1 - l.file)) (1 - l.file) bs) (1 - l.file)) 20 else
 (⟨qfq (appD (qby l.d (1 - l.file)) (1 - l.file) bs) (1 - l.file),1 - l.file,ep,k,l.shut⟩,0)
def ptA (ep:Nat) (st:ByteArray) (evs:List EV):ByteArray:=⟨(ptF ep st evs).toArray⟩
def layP (l:LG) (ep:Nat) (st:ByteArray) (evs:List EV):LG×Nat:=if ptC ep st evs≠0 then (l,2) else layG l ep (ptA ep st evs) evs.length
structure OG where
 l:LG
 st:ByteArray
 evs:List EV
 e:Nat
def noG (d:DK):LG:=⟨d,0,0,0,false⟩
def qfw (d:DK) (e:Nat):OG:=⟨noG d,⟨#[]⟩,[],e⟩
def outG (x:LG×Nat) (st:ByteArray) (evs:List EV):OG:=if x.2≠0 then qfw x.1.d x.2 else ⟨x.1,st,evs,0⟩
def qdb (d:DK) (f:Nat) (t:TL):OG:=if t.n=(d.get f).s.size then ⟨⟨d,f,t.ep,t.evs.length,false⟩,t.st,t.evs,0⟩ else if 1000000≤t.ep then qfw d 9 else outG (layP ⟨d,f,t.ep,t.evs.length,false⟩ (t.ep + 1) t.st t.evs) t.st t.evs
def qal (f:FL):TL:=qdh f.s.data.toList
def qaw (d:DK) (first:ByteArray):OG :=
 if d.dead then qfw d 20 else
 if (qal d.f0).ep=0∧(qal d.f1).ep=0 then outG (layP ⟨d,1,0,0,false⟩ 1 first []) first [] else
 if (qal d.f0).ep=(qal d.f1).ep then qfw d 23 else
 if (qal d.f1).ep < (qal d.f0).ep then qdb d 0 (qal d.f0) else qdb d 1 (qal d.f1)
def addG (l:LG) (e:EV):LG×Nat :=
 if l.shut then (l,20) else if 1000000≤l.sq then (l,9) else if recC (evR l.ep (l.sq + 1) e)≠0 then (l,2) else
 if l.d.dead then shutG l l.d 20 else
 if l.d.room < l.d.f0.s.size + l.d.f1.s.size + (qak (recB (evR l.ep (l.sq + 1) e))).length then (l,22) else
 if l.d.off then shutG l (appD l.d l.file ⟨(qak (recB (evR l.ep (l.sq + 1) e))).toArray⟩) 20 else
 (⟨appD l.d l.file ⟨(qak (recB (evR l.ep (l.sq + 1) e))).toArray⟩,l.file,l.ep,l.sq + 1,l.shut⟩,0)
def qiw (l:LG):LG×Nat:=if l.shut then (l,20) else if l.d.dead then shutG l l.d 20 else shutG l (qfq l.d l.file) (offC l.d)
def qdt (l:LG) (st:ByteArray):LG×Nat:=if l.shut then (l,20) else if 1000000≤l.ep then (l,9) else layP l (l.ep + 1) st []
end Go.Proofs.YtjkecckndfcbjaaGreatDoor
namespace Go.Proofs.YtjkecckndfcbjaaGreatDoor
open Nb Crc
theorem qus (d:DK) (f:Nat) (x:FL):(d.put f x).dead=d.dead:=by unfold DK.put;split <;> rfl
theorem qny (d:DK) (f:Nat) (x:FL):(d.put f x).room=d.room:=by unfold DK.put;split <;> rfl
theorem goes_on {d:DK} (h:d.off=false):d.goes.dead=d.dead:=by
 unfold DK.off at h
 unfold DK.goes
 rw [if_neg (by simpa using h)]
structure CD (d:DK) (f B:Nat):Prop where
 ok:d.ok
 file:f=0∨f=1
 live:d.dead=false
 arm:d.arm=0
 room:d.room=900000
 c:ptC (qal (d.get f)).ep (qal (d.get f)).st (qal (d.get f)).evs=0
 ep1:1≤(qal (d.get f)).ep
 ep2:(qal (d.get f)).ep≤B
 few:(qal (d.get f)).evs.length≤40
 size:(d.get f).s.size≤300000
 oth:(qal (d.get (1 - f))).ep < (qal (d.get f)).ep
theorem qnz {ep i:Nat} {e:EV} (h:recC (evR ep i e)=0):(qak (recB (evR ep i e))).length≤5100:=by
 obtain ⟨h1,h2,h3,h4,-,h6⟩:=qfv h
 obtain ⟨h7,h8,h9,-⟩:=h6 rfl
 have q1:=qax (evR ep i e).ep.toNat (by omega)
 have q2:=qax (evR ep i e).sq.toNat (by omega)
 have e1:(evR ep i e).dt.data.toList.length=(evR ep i e).dt.size:=by simp
 have q4:=qax (evR ep i e).dt.data.toList.length (by omega)
 have q5:=qax (evR ep i e).k.toNat (by omega)
 have e2:(recB (evR ep i e)).length≤5040:=by
  unfold recB qdf
  rw [show (evR ep i e).sn=false from rfl]
  simp only [List.length_append,Bool.false_eq_true,if_false]
  show _ + _ + 1 + _≤_
  omega
 have q6:=qax (recB (evR ep i e)).length (by omega)
 rw [qdv]
 omega
theorem evsB_size {ep:Nat} (l:List EV):∀ i:Nat,evsC ep i l=0→((evsB ep i l).flatMap qak).length≤5100 * l.length:=by
 induction l with
 | nil=>intro i _;simp [evsB]
 | cons x l ih =>
   intro i h
   obtain ⟨g1,g2⟩:=qfk h
   have:=ih _ g2
   have:=qnz g1
   rw [evsB,List.flatMap_cons,List.length_append,List.length_cons]
   omega
theorem qju {ep:Nat} {st:ByteArray} {l:List EV} (h:ptC ep st l=0):(ptF ep st l).length≤18200 + 5100 * l.length:=by
 obtain ⟨g1,g2⟩:=qqh h
 have h1:=qgn g1
 have h2:=evsB_size l 1 g2
 have q6:=qax (recB (snR ep st)).length (by omega)
 unfold ptF ptB
 rw [List.flatMap_cons,List.length_append,qdv]
 omega
theorem qoa {f:FL} {ep:Nat} {st:ByteArray} {evs:List EV} (h:ptC ep st evs=0) (hs:f.s.data.toList=ptF ep st evs):qal f=⟨ep,st,evs,(ptF ep st evs).length⟩:=by
 unfold qal
 rw [hs,tellL_pt h]
theorem qje (l:List UInt8):(⟨l.toArray⟩:ByteArray).size=l.length:=by simp [ByteArray.size]
theorem qut (ep:Nat) (st:ByteArray) (evs:List EV):(ptA ep st evs).size=(ptF ep st evs).length:=qje _
structure PP where
 st:ByteArray
 evs:List EV
 safe:Nat
 torn:ByteArray
 lost:Bool
def actG (l:LG) (k:Int) (e:EV) (tx:ByteArray):LG×Nat:=if k=0 then addG l e else if k=1 then qiw l else qdt l tx
def OT (n:Nat) (p:PP) (l:LG) (s:List UInt8):Prop :=
 (∃ ep st evs,ep < l.ep∧evs.length≤n∧ptC ep st evs=0∧s=ptF ep st evs)∨s=[]∨(p.lost=true∧ptC (l.ep + 1) p.torn []=0∧s=ptF (l.ep + 1) p.torn [])
structure IV (n:Nat) (p:PP) (l:LG):Prop where
 file:l.file=0∨l.file=1
 ok:l.d.ok
 c:ptC l.ep p.st p.evs=0
 cur:(l.d.get l.file).s.data.toList=ptF l.ep p.st p.evs
 safe:p.safe≤p.evs.length
 kept:(ptF l.ep p.st (p.evs.take p.safe)).length≤(l.d.get l.file).safe
 half:(l.d.get l.file).half=false
 ep1:1≤l.ep
 ep2:l.ep≤n + 1
 few:p.evs.length≤n
 room:l.d.room=900000
 oth:OT n p l (l.d.get (1 - l.file)).s.data.toList
 live:l.shut=false→l.sq=p.evs.length∧l.d.dead=false∧p.lost=false
theorem OT.more {n:Nat} {p:PP} {l:LG} {s:List UInt8} (h:OT n p l s) (p':PP) (l':LG) (hp:p.lost=true→p'.torn=p.torn∧p'.lost=true) (hl:l'.ep=l.ep):OT (n + 1) p' l' s:=by
 rcases h with ⟨ep,st,evs,h1,h2,h3,h4⟩ | h | ⟨h1,h2,h3⟩
 ·exact Or.inl ⟨ep,st,evs,by omega,by omega,h3,h4⟩
 ·exact Or.inr (Or.inl h)
 ·obtain ⟨g1,g2⟩:=hp h1
  exact Or.inr (Or.inr ⟨g2,by rw [g1,hl];exact h2,by rw [g1,hl];exact h3⟩)
theorem IV.next {n:Nat} {p:PP} {l:LG} (h:IV n p l):IV (n + 1) p l :=
 ⟨h.file,h.ok,h.c,h.cur,h.safe,h.kept,h.half,h.ep1,by have:=h.ep2;omega,by have:=h.few;omega,h.room,h.oth.more p l (fun x=>⟨rfl,x⟩) rfl,h.live⟩
def newD (room:Nat):DK:=⟨zF,zF,room,0,0,false⟩
theorem tellF_z:qal zF=zT:=qqk
end Go.Proofs.YtjkecckndfcbjaaGreatDoor
namespace Go.Proofs.YtjkecckndfcbjaaGreatDoor
open Go.RowKit
set_option maxRecDepth 100000
def encD (d:DK):List Value:=[.string d.f0.s,.int .i64 (d.f0.safe:Int),.bool d.f0.half,.string d.f1.s,.int .i64 (d.f1.safe:Int),.bool d.f1.half,.int .i64 (d.room:Int),.int .i64 (d.ops:Int),.int .i64 (d.arm:Int),.bool d.dead]
def DAt (w:World) (g:Nat) (d:DK):Prop:=w.heap[g]?=some (.cells (encD d).toArray 85 (0,0))
structure But (g:Nat) (w w':World):Prop where
 os:w'.os=w.os
 tape:w'.tape=w.tape
 output:w'.output=w.output
 size:w.heap.size≤w'.heap.size
 block:∀ k,k < w.heap.size→k≠g→w'.heap[k]?=w.heap[k]?
theorem But.refl (g:Nat) (w:World):But g w w:=⟨rfl,rfl,rfl,Nat.le_refl _,fun _ _ _=>rfl⟩
theorem But.trans {g:Nat} {a b c:World} (h:But g a b) (k:But g b c):But g a c :=
 ⟨k.os.trans h.os,k.tape.trans h.tape,k.output.trans h.output,Nat.le_trans h.size k.size,fun i hi hg=>(k.block i (Nat.lt_of_lt_of_le hi h.size) hg).trans (h.block i hi hg)⟩
theorem But.of {g:Nat} {w w':World} (h:Below w.heap.size w w'):But g w w':=⟨h.os,h.tape,h.output,h.size,fun k hk _=>h.block k hk⟩
theorem But.below {g B:Nat} {w0 w w':World} (h:But g w w') (hb:Below B w0 w) (hg:B≤g) (hB:B≤w.heap.size):Below B w0 w' :=
 hb.trans ⟨h.os,h.tape,h.output,h.size,fun k hk=>h.block k (Nat.lt_of_lt_of_le hk hB) (by omega)⟩
theorem But.set {g:Nat} {w w':World} (h:But g w w') (j:Nat) (u:Value):But g w (w'.setCell ⟨g,j,none⟩ u) :=
 h.trans ⟨rfl,rfl,rfl,by simp [World.setCell],fun k _ hk=>Below.heap_setCell w' ⟨g,j,none⟩ u k hk⟩
theorem But.alloc {g:Nat} {w w':World} (h:But g w w') (o:Obj):But g w (w'.alloc o):=h.trans (But.of ((Below.refl _ _).alloc (Nat.le_refl _) o))
theorem But.drew {g:Nat} {w w':World} (h:But g w w'):But g w w'.drew:=⟨h.os,h.tape,h.output,h.size,h.block⟩
theorem But.drewN {g:Nat} {w w':World} (h:But g w w') (n:Nat):But g w (w'.drewN n):=⟨h.os,h.tape,h.output,h.size,h.block⟩
theorem But.cell {g:Nat} {w w':World} (h:But g w w') {p:Addr} (hp:p.block < w.heap.size) (hg:p.block≠g):w'.cell? p=w.cell? p:=World.cell?_of_block (w:=w) (h.block p.block hp hg)
theorem But.heap {g:Nat} {w w':World} (h:But g w w') {k:Nat} {o:Obj} (hk:w.heap[k]?=some o) (hg:k≠g):w'.heap[k]?=some o:=(h.block k (qaa hk) hg).trans hk
theorem DAt.lt {w:World} {g:Nat} {d:DK} (h:DAt w g d):g < w.heap.size:=qaa h
theorem DAt.below {w w':World} {g:Nat} {d:DK} (h:DAt w g d) (hb:Below w.heap.size w w'):DAt w' g d:=(hb.block g h.lt).trans h
theorem DAt.drew {w:World} {g:Nat} {d:DK} (h:DAt w g d):DAt w.drew g d:=h
theorem DAt.but {w w':World} {g k:Nat} {d:DK} (h:DAt w g d) (hb:But k w w') (hg:g≠k):DAt w' g d:=hb.heap h hg
theorem DAt.cells {w:World} {g:Nat} {d:DK} (h:DAt w g d):w.cell? ⟨g,0,none⟩=some (.string d.f0.s)∧w.cell? ⟨g,1,none⟩=some (.int .i64 (d.f0.safe:Int))∧w.cell? ⟨g,2,none⟩=some (.bool d.f0.half)∧w.cell? ⟨g,3,none⟩=some (.string d.f1.s)∧w.cell? ⟨g,4,none⟩=some (.int .i64 (d.f1.safe:Int))∧w.cell? ⟨g,5,none⟩=some (.bool d.f1.half)∧w.cell? ⟨g,6,none⟩=some (.int .i64 (d.room:Int))∧w.cell? ⟨g,7,none⟩=some (.int .i64 (d.ops:Int))∧w.cell? ⟨g,8,none⟩=some (.int .i64 (d.arm:Int))∧w.cell? ⟨g,9,none⟩=some (.bool d.dead):=by
 refine ⟨?_,?_,?_,?_,?_,?_,?_,?_,?_,?_⟩ <;> (rw [qac h];rfl)
theorem DAt.frozen {w:World} {g:Nat} {d:DK} (h:DAt w g d) (j:Nat):w.frozen? ⟨g,j,none⟩=false:=Lib.frozen_of_heap h j
theorem DAt.app {w:World} {g:Nat} {d:DK} (h:DAt w g d) (f:Nat) (hf:f=0∨f=1) (s:ByteArray):DAt (w.setCell ⟨g,3 * f,none⟩ (.string s)) g (d.put f ⟨s,(d.get f).safe,(d.get f).half⟩):=by
 rcases hf with rfl | rfl <;> exact qae h _ _
theorem DAt.sync {w:World} {g:Nat} {d:DK} (h:DAt w g d) (f:Nat) (hf:f=0∨f=1) (n:Nat):DAt (w.setCell ⟨g,3 * f + 1,none⟩ (.int .i64 (n:Int))) g (d.put f ⟨(d.get f).s,n,(d.get f).half⟩):=by
 rcases hf with rfl | rfl <;> exact qae h _ _
theorem DAt.half {w:World} {g:Nat} {d:DK} (h:DAt w g d) (f:Nat) (hf:f=0∨f=1) (b:Bool):DAt (w.setCell ⟨g,3 * f + 2,none⟩ (.bool b)) g (d.put f ⟨(d.get f).s,(d.get f).safe,b⟩):=by
 rcases hf with rfl | rfl <;> exact qae h _ _
theorem DAt.ops {w:World} {g:Nat} {d:DK} (h:DAt w g d) (n:Nat):DAt (w.setCell ⟨g,7,none⟩ (.int .i64 (n:Int))) g { d with ops:=n }:=qae h _ _
theorem DAt.arm {w:World} {g:Nat} {d:DK} (h:DAt w g d) (n:Nat):DAt (w.setCell ⟨g,8,none⟩ (.int .i64 (n:Int))) g { d with arm:=n }:=qae h _ _
theorem DAt.dead {w:World} {g:Nat} {d:DK} (h:DAt w g d) (b:Bool):DAt (w.setCell ⟨g,9,none⟩ (.bool b)) g { d with dead:=b }:=qae h _ _
def qhv:ByteArray:=⟨#[100,105,115,107]⟩
def logW:ByteArray:=⟨#[108,111,103]⟩
theorem qdc (c:Int) (w:World) (h:1≤c∧c≤100) :
 Calls Tryz.prog 32 #[.int .i64 c] w fun e w'=>∃ v,e=.returned v∧Chain w' [qhv] c v∧Below w.heap.size w w':=by
 have HN:Hid (∀ W:World,Calls Tryz.prog 64 #[.string ⟨#[100,105,115,107]⟩,.int .i64 c] W fun e w'=>∃ v,e=.returned v∧Chain w' [qhv] c v∧Below W.heap.size W w'):=fun W=>qee qhv c W (by omega)
 clear h
 go_enter Tryz.func32,Tryz.ntmps32
 go_wp2_with fail
 refine (HN.out _).mono ?_
 rintro e w1 ⟨v,rfl,hch,hb⟩
 have HC:=hI hch
 have HB:=hI hb
 clear hch hb
 go_wp2
 go_ret
 exact ⟨_,rfl,HC.out,HB.out⟩
theorem qgo (d:DK) (g:Nat) (w:World) (h:DAt w g d) (h1:1≤d.room) :
 Calls Tryz.prog 57 #[.pointer (some ⟨g,0,none⟩)] w fun e w'=>e=.returned (.bool true)∧w=w':=by
 obtain ⟨-,-,-,-,-,-,c6,-,-,-⟩:=h.cells
 have hr:0 < d.room:=by omega
 clear h h1
 go_enter Tryz.func57,Tryz.ntmps57
 go_wp2
 go_ret
 exact ⟨rfl,rfl⟩
theorem qql (d:DK) (g:Nat) (f:Int) (w:World) (h:DAt w g d) (h1:1≤d.room) :
 Calls Tryz.prog 52 #[.pointer (some ⟨g,0,none⟩),.int .i64 f] w fun e w'=>e=.returned (.int .i64 (d.up f:Int))∧w=w':=by
 obtain ⟨-,-,-,-,-,-,-,-,-,c9⟩:=h.cells
 have HM:=hI (qgo d g w h h1)
 have HU:Hid (d.up f=if d.dead then 20 else if f < 0∨2≤f then 2 else 0):=rfl
 generalize d.up f=u at HU ⊢
 generalize d.dead=dd at HU c9
 clear h h1
 go_enter Tryz.func52,Tryz.ntmps52
 cases dd
 ·simp only [Bool.false_eq_true,if_false] at HU
  by_cases h1:f < 0
  ·rw [if_pos (Or.inl h1)] at HU
   go_wp2_with (go_at_call 57;refine HM.out.mono ?_;rintro _ _ ⟨rfl,rfl⟩)
   go_ret
   rw [HU.out]
   exact ⟨rfl,rfl⟩
  ·by_cases h2:2≤f
   ·rw [if_pos (Or.inr h2)] at HU
    go_wp2_with (go_at_call 57;refine HM.out.mono ?_;rintro _ _ ⟨rfl,rfl⟩)
    go_ret
    rw [HU.out]
    exact ⟨rfl,rfl⟩
   ·rw [if_neg (by omega)] at HU
    have h2':decide (2≤f)=false:=decide_eq_false h2
    go_wp2_with (go_at_call 57;refine HM.out.mono ?_;rintro _ _ ⟨rfl,rfl⟩)
    go_ret
    rw [HU.out]
    exact ⟨rfl,rfl⟩
 ·simp only [if_true] at HU
  go_wp2_with (go_at_call 57;refine HM.out.mono ?_;rintro _ _ ⟨rfl,rfl⟩)
  go_ret
  rw [HU.out]
  exact ⟨rfl,rfl⟩
def ErD (c:Nat) (e:Ending) (w':World):Prop:=∃ v,e=.returned v∧ErrV w' (if c=0 then [] else [qhv]) (c:Int) v
theorem DAt.noFlt {w:World} {g:Nat} {d:DK} (h:DAt w g d):¬ Flt w g:=fun ⟨cs,f,h1⟩=>by
 rw [h] at h1
 injection h1 with h1
 injection h1 with _ h2
 exact absurd h2 (by decide)
theorem Flt.but {g b:Nat} {w w':World} (hb:But g w w') (hg:¬ Flt w g) (h:Flt w b):Flt w' b:=by
 have hne:b≠g:=fun e=>hg (e ▸ h)
 obtain ⟨cs,f,h⟩:=h
 exact ⟨cs,f,hb.heap h hne⟩
theorem Chain.but {g:Nat} {w w':World} (hb:But g w w') (hg:¬ Flt w g):∀ {ops:List ByteArray} {c:Int} {v:Value},Chain w ops c v→Chain w' ops c v
 | [],_,_,h=>h
 | _ :: _,_,_,⟨b,o,u,h1,h2,h3,h4,h5⟩=>by
   have hne:b≠g:=fun e=>hg (e ▸ h5)
   exact ⟨b,o,u,h1,(hb.cell (p:=⟨b,o,none⟩) (qan h2) hne).trans h2,(hb.cell (p:=⟨b,o + 1,none⟩) (qan h3) hne).trans h3,Chain.but hb hg h4,h5.but hb hg⟩
theorem ErrV.but {g:Nat} {w w':World} (hb:But g w w') (hg:¬ Flt w g) {ops:List ByteArray} {c:Int} {v:Value} (h:ErrV w ops c v):ErrV w' ops c v:=by
 rcases h with h | ⟨h1,h2⟩
 ·exact Or.inl h
 ·exact Or.inr ⟨h1,h2.but hb hg⟩
structure CapF (w:World) (g f p q:Nat):Prop where
 hf:f=0∨f=1
 p0:w.cell? ⟨p,0,none⟩=some (.pointer (some ⟨g,0,none⟩))
 q0:w.cell? ⟨q,0,none⟩=some (.int .i64 (f:Int))
 pg:p≠g
 qg:q≠g
theorem CapF.but {w w':World} {g f p q:Nat} (h:CapF w g f p q) (hb:But g w w'):CapF w' g f p q :=
 ⟨h.hf,(hb.cell (qan h.p0) h.pg).trans h.p0,(hb.cell (qan h.q0) h.qg).trans h.q0,h.pg,h.qg⟩
def CloP (g:Nat) (d':DK) (w:World) (e:Ending) (w':World):Prop:=e=.returned (.tuple #[])∧DAt w' g d'∧But g w w'
theorem quu (d:DK) (g f p q r:Nat) (s:ByteArray) (w:World) (h:DAt w g d) (hok:d.ok) (hs:s.size≤2000000000) (hc:CapF w g f p q) (h2:w.cell? ⟨r,0,none⟩=some (.string s)) :
 Calls Tryz.prog 90 #[.pointer (some ⟨p,0,none⟩),.pointer (some ⟨q,0,none⟩),.pointer (some ⟨r,0,none⟩)] w (CloP g (d.put f ⟨(d.get f).s ++ s,(d.get f).safe,(d.get f).half⟩) w):=by
 obtain ⟨c0,-,-,c3,-,-,-,-,-,-⟩:=h.cells
 have z0:=h.frozen 0
 have z3:=h.frozen 3
 obtain ⟨hf,p0,q0,-,-⟩:=hc
 have H:=hI h
 have z1:d.f0.s.size≤1000000:=by have:=hok.fit;have:=hok.room;omega
 have z2:d.f1.s.size≤1000000:=by have:=hok.fit;have:=hok.room;omega
 clear h hok
 rcases hf with rfl | rfl
 ·go_enter Tryz.func90,Tryz.ntmps90
  go_wp2
  go_region
  go_wp2
  go_end0
  exact ⟨rfl,H.out.app 0 (Or.inl rfl) _,((But.refl g w).set _ _).drew⟩
 ·go_enter Tryz.func90,Tryz.ntmps90
  go_wp2
  go_region
  go_wp2
  go_end0
  exact ⟨rfl,H.out.app 1 (Or.inr rfl) _,((But.refl g w).set _ _).drew⟩
end Go.Proofs.YtjkecckndfcbjaaGreatDoor
namespace Go.Proofs.YtjkecckndfcbjaaGreatDoor
def fstB:ByteArray:=⟨#[102,105,114,115,116]⟩
def othB:ByteArray:=⟨#[111,116,104,101,114]⟩
def nxtB:ByteArray:=⟨#[110,101,120,116]⟩
def aw1:OG:=qaw (newD 1000) fstB
def aw2:LG×Nat:=addG aw1.l (3,⟨#[]⟩)
def aw3:LG×Nat:=qiw aw2.1
def aw4:LG×Nat:=addG aw3.1 (0,⟨#[]⟩)
def aw5:OG:=qaw aw4.1.d othB
def aw6:LG×Nat:=qdt aw5.l nxtB
def aw7:OG:=qaw aw6.1.d othB
def LOK (l:LG):Prop:=l.d.ok∧l.d.ops≤100∧(l.file=0∨l.file=1)∧l.sq≤10∧l.ep≤10
theorem qsp:aw1.e=0∧aw1.st=fstB∧aw1.evs.length=0:=by decide +kernel
theorem aw2_all:aw2.2=0:=by decide +kernel
theorem aw3_all:aw3.2=0:=by decide +kernel
theorem qsq:aw4.2=2∧aw4.1.sq=1:=by decide +kernel
def tkE:List EV:=[(3,⟨#[]⟩)]
def aw5l:LG:=⟨aw4.1.d,0,1,1,false⟩
theorem aw4_t0:qal aw4.1.d.f0=⟨1,fstB,tkE,(ptF 1 fstB tkE).length⟩:=qoa (by decide +kernel) (by decide +kernel)
theorem aw4_t1:qal aw4.1.d.f1=zT:=by
 have h:aw4.1.d.f1.s.data.toList=[]:=by decide +kernel
 show qdh aw4.1.d.f1.s.data.toList=_
 rw [h]
 exact qqk
theorem aw5_eq:aw5=⟨aw5l,fstB,tkE,0⟩:=by
 unfold aw5 qaw
 rw [aw4_t0,aw4_t1,if_neg (by decide +kernel),if_neg (by decide +kernel),if_neg (by decide +kernel),if_pos (by decide +kernel)]
 unfold qdb
 rw [if_pos (by decide +kernel)]
 rfl
def aw6l:LG×Nat:=qdt aw5l nxtB
theorem aw6_eq:aw6=aw6l:=by unfold aw6 aw6l;rw [aw5_eq]
theorem qsr:aw6l.2=0∧aw6l.1.ep=2∧aw6l.1.sq=0:=by decide +kernel
theorem aw6_t0:qal aw6l.1.d.f0=⟨1,fstB,tkE,(ptF 1 fstB tkE).length⟩:=qoa (by decide +kernel) (by decide +kernel)
theorem aw6_t1:qal aw6l.1.d.f1=⟨2,nxtB,[],(ptF 2 nxtB []).length⟩:=qoa (by decide +kernel) (by decide +kernel)
theorem aw7_all:∃ l,aw7=⟨l,nxtB,[],0⟩:=by
 unfold aw7 qaw
 rw [aw6_eq,aw6_t0,aw6_t1,if_neg (by decide +kernel),if_neg (by decide +kernel),if_neg (by decide +kernel),if_neg (by decide +kernel)]
 unfold qdb
 rw [if_pos (by decide +kernel)]
 exact ⟨_,rfl⟩
theorem qss:(newD 1000).ok:=⟨by decide +kernel,by decide +kernel,by decide +kernel,by decide +kernel,by decide +kernel,by decide +kernel⟩
theorem quv:LOK aw1.l:=⟨⟨by decide +kernel,by decide +kernel,by decide +kernel,by decide +kernel,by decide +kernel,by decide +kernel⟩,by decide +kernel,by decide +kernel,by decide +kernel,by decide +kernel⟩
theorem aw2_ok:LOK aw2.1:=⟨⟨by decide +kernel,by decide +kernel,by decide +kernel,by decide +kernel,by decide +kernel,by decide +kernel⟩,by decide +kernel,by decide +kernel,by decide +kernel,by decide +kernel⟩
theorem quw:LOK aw3.1:=⟨⟨by decide +kernel,by decide +kernel,by decide +kernel,by decide +kernel,by decide +kernel,by decide +kernel⟩,by decide +kernel,by decide +kernel,by decide +kernel,by decide +kernel⟩
theorem aw4_ok:LOK aw4.1:=⟨⟨by decide +kernel,by decide +kernel,by decide +kernel,by decide +kernel,by decide +kernel,by decide +kernel⟩,by decide +kernel,by decide +kernel,by decide +kernel,by decide +kernel⟩
theorem aw5_ok:LOK aw5l:=⟨⟨by decide +kernel,by decide +kernel,by decide +kernel,by decide +kernel,by decide +kernel,by decide +kernel⟩,by decide +kernel,by decide +kernel,by decide +kernel,by decide +kernel⟩
theorem aw6_ok:LOK aw6l.1:=⟨⟨by decide +kernel,by decide +kernel,by decide +kernel,by decide +kernel,by decide +kernel,by decide +kernel⟩,by decide +kernel,by decide +kernel,by decide +kernel,by decide +kernel⟩
end Go.Proofs.YtjkecckndfcbjaaGreatDoor
