/- Texts that the law leans on. -/
import Derived.Test.YtjkecckndfcbjaaGreatDoorKOwnK
import Derived.Test.YtjkecckndfcbjaaGreatDoorKMsgD
import Derived.Test.YtjkecckndfcbjaaGreatDoorKErrA
import Derived.Test.YtjkecckndfcbjaaGreatDoorKErrD
import Derived.Test.YtjkecckndfcbjaaGreatDoorKRowA
namespace Go.Proofs.YtjkecckndfcbjaaGreatDoor
open Go.RowKit Go.Sort Go.Lib
def chkM (m:PM):Int:=if m.k < 1∨10 < m.k then 30 else if decide (1≤m.fr∧m.fr≤9) && qgk (qbv m) m && mayB m then 0 else 2
def msgW:ByteArray:=⟨#[109,115,103]⟩
def ChkP (m:PM) (e:Ending) (w':World):Prop:=∃ v,e=.returned v∧ErrV w' (if chkM m=0 then [] else [msgW]) (chkM m) v
theorem RdM.bare {w:World} {m:PM} (h:RdM w m):RdM w (qbv m):=by
 refine ⟨?_,?_,?_,?_,?_⟩
 ·unfold qbv;by_cases hk:m.k=10
  ·simp [hk];exact h.ra
  ·simp [hk];exact fun h=>absurd h (by simp)
 ·unfold qbv;by_cases hk:m.k=10
  ·simp [hk];exact h.rm
  ·simp [hk];exact RdI.none_
 ·unfold qbv;by_cases hk:m.k=10
  ·simp [hk];exact h.sa
  ·simp [hk]
 ·unfold qbv;by_cases hk:m.k=10
  ·simp [hk];exact h.sm
  ·simp [hk]
 ·unfold qbv;have:=h.sp;simp only;split
  ·exact this
  ·simp [ByteArray.size]
set_option maxRecDepth 100000 in
set_option maxHeartbeats 4000000 in
theorem Check_any (m:PM) (w:World) (hm:RdM w m) :
 Calls Tryz.prog 156 #[msgV m] w fun e w'=>ChkP m e w'∧Below w.heap.size w w':=by
 have HN:=hI (fun W=>Name_any m.k W)
 by_cases hk:m.k < 1∨10 < m.k
 ·have HC:Hid (chkM m=30):=by show _=_;unfold chkM;rw [if_pos hk]
  have HF:=hI (fun W=>qek msgW 30 W (by omega))
  have hd:decide (m.k < 1∨10 < m.k)=true:=by simpa using hk
  unfold msgV
  clear hk hm
  go_enter Tryz.func156,Tryz.ntmps156
  go_wp2_with fail
  refine (HN.out _).mono ?_
  rintro e w1 ⟨⟨s,rfl,hs⟩,hb1⟩
  rw [hd] at hs
  have HB1:=hI (qac (bel1 w _) hb1)
  clear hb1
  go_wp2_with (go_at_call 64;refine (HF.out _).mono ?_;rintro e w2 ⟨v,rfl,hch,hb2⟩;have HCH:=hI hch;have HB2:=hI (qac HB1.out hb2);clear hch hb2)
  go_ret
  exact ⟨⟨v,rfl,by rw [HC.out];exact Or.inr ⟨by omega,by simpa using HCH.out⟩⟩,HB2.out⟩
 ·have HK:=hI hk
  have hd:decide (m.k < 1∨10 < m.k)=false:=by simpa using hk
  have h1:1≤m.k:=by omega
  have h2:m.k≤10:=by omega
  have HM:=hI hm
  have HMA0:=hI (fun W (h:Below w.heap.size w W)=>mayM_any m W (hm.next h) h1 h2)
  have HBA0:=hI (fun W=>bare_any m W h1 h2)
  have HSA0:=hI (fun W (h:Below w.heap.size w W)=>Same_any (qbv m) m W (hm.next h).bare (hm.next h))
  have HMV:Hid (∀ x,msgV x=.agg #[.int .i64 x.k,.int .i64 x.fr,.int .i64 x.id,.int .i64 x.t,.int .i64 x.bal,.int .i64 x.abal,.int .i64 x.ph,.int .i64 x.q,.string x.pay,.int .i64 x.lo,.int .i64 x.hi,.slice x.aA x.ats.size x.aC,.slice x.mA x.mks.size x.mC,.int .i64 x.dn]):=fun _=>rfl
  obtain ⟨bv,hbv⟩:∃ v,msgV (qbv m)=v:=⟨_,rfl⟩
  rw [hbv] at HBA0 HSA0
  unfold msgV at HMA0 HBA0 HSA0 ⊢
  clear hk hm h1 h2 hbv
  go_enter Tryz.func156,Tryz.ntmps156
  go_wp2_with fail
  refine (HN.out _).mono ?_
  rintro e w1 ⟨⟨s,rfl,hs⟩,hb1⟩
  rw [hd] at hs
  have hlt:w.heap.size < w1.heap.size:=by have:=hb1.size;simp at this;omega
  have q0:∀ p:ExtW w1,p.to.cell? ⟨w.heap.size,0,none⟩=some (.int .i64 m.k):=fun p=>(p.h.cell (p:=⟨w.heap.size,0,none⟩) hlt).trans ((hb1.cell (p:=⟨w.heap.size,0,none⟩) (by simp)).trans (by simp))
  have q1:∀ p:ExtW w1,p.to.cell? ⟨w.heap.size,1,none⟩=some (.int .i64 m.fr):=fun p=>(p.h.cell (p:=⟨w.heap.size,1,none⟩) hlt).trans ((hb1.cell (p:=⟨w.heap.size,1,none⟩) (by simp)).trans (by simp))
  have q2:∀ p:ExtW w1,p.to.cell? ⟨w.heap.size,2,none⟩=some (.int .i64 m.id):=fun p=>(p.h.cell (p:=⟨w.heap.size,2,none⟩) hlt).trans ((hb1.cell (p:=⟨w.heap.size,2,none⟩) (by simp)).trans (by simp))
  have q3:∀ p:ExtW w1,p.to.cell? ⟨w.heap.size,3,none⟩=some (.int .i64 m.t):=fun p=>(p.h.cell (p:=⟨w.heap.size,3,none⟩) hlt).trans ((hb1.cell (p:=⟨w.heap.size,3,none⟩) (by simp)).trans (by simp))
  have q4:∀ p:ExtW w1,p.to.cell? ⟨w.heap.size,4,none⟩=some (.int .i64 m.bal):=fun p=>(p.h.cell (p:=⟨w.heap.size,4,none⟩) hlt).trans ((hb1.cell (p:=⟨w.heap.size,4,none⟩) (by simp)).trans (by simp))
  have q5:∀ p:ExtW w1,p.to.cell? ⟨w.heap.size,5,none⟩=some (.int .i64 m.abal):=fun p=>(p.h.cell (p:=⟨w.heap.size,5,none⟩) hlt).trans ((hb1.cell (p:=⟨w.heap.size,5,none⟩) (by simp)).trans (by simp))
  have q6:∀ p:ExtW w1,p.to.cell? ⟨w.heap.size,6,none⟩=some (.int .i64 m.ph):=fun p=>(p.h.cell (p:=⟨w.heap.size,6,none⟩) hlt).trans ((hb1.cell (p:=⟨w.heap.size,6,none⟩) (by simp)).trans (by simp))
  have q7:∀ p:ExtW w1,p.to.cell? ⟨w.heap.size,7,none⟩=some (.int .i64 m.q):=fun p=>(p.h.cell (p:=⟨w.heap.size,7,none⟩) hlt).trans ((hb1.cell (p:=⟨w.heap.size,7,none⟩) (by simp)).trans (by simp))
  have q8:∀ p:ExtW w1,p.to.cell? ⟨w.heap.size,8,none⟩=some (.string m.pay):=fun p=>(p.h.cell (p:=⟨w.heap.size,8,none⟩) hlt).trans ((hb1.cell (p:=⟨w.heap.size,8,none⟩) (by simp)).trans (by simp))
  have q9:∀ p:ExtW w1,p.to.cell? ⟨w.heap.size,9,none⟩=some (.int .i64 m.lo):=fun p=>(p.h.cell (p:=⟨w.heap.size,9,none⟩) hlt).trans ((hb1.cell (p:=⟨w.heap.size,9,none⟩) (by simp)).trans (by simp))
  have q10:∀ p:ExtW w1,p.to.cell? ⟨w.heap.size,10,none⟩=some (.int .i64 m.hi):=fun p=>(p.h.cell (p:=⟨w.heap.size,10,none⟩) hlt).trans ((hb1.cell (p:=⟨w.heap.size,10,none⟩) (by simp)).trans (by simp))
  have q11:∀ p:ExtW w1,p.to.cell? ⟨w.heap.size,11,none⟩=some (.slice m.aA m.ats.size m.aC):=fun p=>(p.h.cell (p:=⟨w.heap.size,11,none⟩) hlt).trans ((hb1.cell (p:=⟨w.heap.size,11,none⟩) (by simp)).trans (by simp))
  have q12:∀ p:ExtW w1,p.to.cell? ⟨w.heap.size,12,none⟩=some (.slice m.mA m.mks.size m.mC):=fun p=>(p.h.cell (p:=⟨w.heap.size,12,none⟩) hlt).trans ((hb1.cell (p:=⟨w.heap.size,12,none⟩) (by simp)).trans (by simp))
  have q13:∀ p:ExtW w1,p.to.cell? ⟨w.heap.size,13,none⟩=some (.int .i64 m.dn):=fun p=>(p.h.cell (p:=⟨w.heap.size,13,none⟩) hlt).trans ((hb1.cell (p:=⟨w.heap.size,13,none⟩) (by simp)).trans (by simp))
  have HB1:=hI (qac (bel1 w _) hb1)
  have HMA:=hI (fun p:ExtW w1=>HMA0.out p.to (qac HB1.out p.h))
  have HBA:=hI (fun p:ExtW w1=>HBA0.out p.to)
  have HSA:=hI (fun p:ExtW w1=>HSA0.out p.to (qac HB1.out p.h))
  clear hb1 HMA0 HBA0 HSA0
  by_cases hf1:m.fr < 1
  ·have hf1':decide (m.fr < 1)=true:=by simp;omega
   have HC:Hid (chkM m=2):=by show _=_;unfold chkM;rw [if_neg HK.out];simp ;intro h;omega
   have HF:=hI (fun W=>qek msgW 2 W (by omega))
   go_wp2_with fail
   refine qaj (by kernel_rfl) (by kernel_rfl) ?_
   repeat (first | go_big_quiet_step ((first | (go_at_call 166;exact Calls.ext_of (HBA.out _)) | (go_at_call 165;exact Calls.ext_of (HSA.out _)) | (go_at_call 167;exact Calls.ext_of (HMA.out _)))) | quiet_step ((first | (go_at_call 166;exact Calls.ext_of (HBA.out _)) | (go_at_call 165;exact Calls.ext_of (HSA.out _)) | (go_at_call 167;exact Calls.ext_of (HMA.out _)))))
   refine wpQuiet_nil ?_
   intro w' hw'
   obtain ⟨⟨W,hbW⟩,hw''⟩:=hw'
   have hw3:w'=W:=hw''
   subst hw3
   have HBW:=hI (qac HB1.out hbW)
   clear hbW hw''
   go_wp2_with (go_at_call 64;refine (HF.out _).mono ?_;rintro e w2 ⟨v,rfl,hch,hb2⟩;have HCH:=hI hch;have HB2:=hI (qac HBW.out hb2);clear hch hb2)
   go_ret
   exact ⟨⟨v,rfl,by rw [HC.out];exact Or.inr ⟨by omega,by simpa using HCH.out⟩⟩,HB2.out⟩
  by_cases hf2:9 < m.fr
  ·have hf1':decide (m.fr < 1)=false:=by simp;omega
   have hf2':decide (9 < m.fr)=true:=by simp;omega
   have HC:Hid (chkM m=2):=by show _=_;unfold chkM;rw [if_neg HK.out];simp ;intro h1 h;omega
   have HF:=hI (fun W=>qek msgW 2 W (by omega))
   go_wp2_with fail
   refine qaj (by kernel_rfl) (by kernel_rfl) ?_
   repeat (first | go_big_quiet_step ((first | (go_at_call 166;exact Calls.ext_of (HBA.out _)) | (go_at_call 165;exact Calls.ext_of (HSA.out _)) | (go_at_call 167;exact Calls.ext_of (HMA.out _)))) | quiet_step ((first | (go_at_call 166;exact Calls.ext_of (HBA.out _)) | (go_at_call 165;exact Calls.ext_of (HSA.out _)) | (go_at_call 167;exact Calls.ext_of (HMA.out _)))))
   refine wpQuiet_nil ?_
   intro w' hw'
   obtain ⟨⟨W,hbW⟩,hw''⟩:=hw'
   have hw3:w'=W:=hw''
   subst hw3
   have HBW:=hI (qac HB1.out hbW)
   clear hbW hw''
   go_wp2_with (go_at_call 64;refine (HF.out _).mono ?_;rintro e w2 ⟨v,rfl,hch,hb2⟩;have HCH:=hI hch;have HB2:=hI (qac HBW.out hb2);clear hch hb2)
   go_ret
   exact ⟨⟨v,rfl,by rw [HC.out];exact Or.inr ⟨by omega,by simpa using HCH.out⟩⟩,HB2.out⟩
  have hf1':decide (m.fr < 1)=false:=by simp;omega
  have hf2':decide (9 < m.fr)=false:=by simp;omega
  have HFR:Hid (decide (1≤m.fr∧m.fr≤9)=true):=by show _=_;rw [decide_eq_true_iff];omega
  cases hsm:qgk (qbv m) m
  ·rw [hsm] at HSA
   have HC:Hid (chkM m=2):=by show _=_;unfold chkM;rw [if_neg HK.out];simp [hsm]
   have HF:=hI (fun W=>qek msgW 2 W (by omega))
   go_wp2_with fail
   refine qaj (by kernel_rfl) (by kernel_rfl) ?_
   repeat (first | go_big_quiet_step ((first | (go_at_call 166;exact Calls.ext_of (HBA.out _)) | (go_at_call 165;exact Calls.ext_of (HSA.out _)) | (go_at_call 167;exact Calls.ext_of (HMA.out _)))) | quiet_step ((first | (go_at_call 166;exact Calls.ext_of (HBA.out _)) | (go_at_call 165;exact Calls.ext_of (HSA.out _)) | (go_at_call 167;exact Calls.ext_of (HMA.out _)))))
   refine wpQuiet_nil ?_
   intro w' hw'
   obtain ⟨⟨W,hbW⟩,hw''⟩:=hw'
   have hw3:w'=W:=hw''
   subst hw3
   have HBW:=hI (qac HB1.out hbW)
   clear hbW hw''
   go_wp2_with (go_at_call 64;refine (HF.out _).mono ?_;rintro e w2 ⟨v,rfl,hch,hb2⟩;have HCH:=hI hch;have HB2:=hI (qac HBW.out hb2);clear hch hb2)
   go_ret
   exact ⟨⟨v,rfl,by rw [HC.out];exact Or.inr ⟨by omega,by simpa using HCH.out⟩⟩,HB2.out⟩
  cases hmy:mayB m
  ·rw [hsm] at HSA
   rw [hmy] at HMA
   have HC:Hid (chkM m=2):=by show _=_;unfold chkM;rw [if_neg HK.out];simp [hmy]
   have HF:=hI (fun W=>qek msgW 2 W (by omega))
   go_wp2_with fail
   refine qaj (by kernel_rfl) (by kernel_rfl) ?_
   repeat (first | go_big_quiet_step ((first | (go_at_call 166;exact Calls.ext_of (HBA.out _)) | (go_at_call 165;exact Calls.ext_of (HSA.out _)) | (go_at_call 167;exact Calls.ext_of (HMA.out _)))) | quiet_step ((first | (go_at_call 166;exact Calls.ext_of (HBA.out _)) | (go_at_call 165;exact Calls.ext_of (HSA.out _)) | (go_at_call 167;exact Calls.ext_of (HMA.out _)))))
   refine wpQuiet_nil ?_
   intro w' hw'
   obtain ⟨⟨W,hbW⟩,hw''⟩:=hw'
   have hw3:w'=W:=hw''
   subst hw3
   have HBW:=hI (qac HB1.out hbW)
   clear hbW hw''
   go_wp2_with (go_at_call 64;refine (HF.out _).mono ?_;rintro e w2 ⟨v,rfl,hch,hb2⟩;have HCH:=hI hch;have HB2:=hI (qac HBW.out hb2);clear hch hb2)
   go_ret
   exact ⟨⟨v,rfl,by rw [HC.out];exact Or.inr ⟨by omega,by simpa using HCH.out⟩⟩,HB2.out⟩
  ·rw [hsm] at HSA
   rw [hmy] at HMA
   have HC:Hid (chkM m=0):=by show _=_;unfold chkM;rw [if_neg HK.out,HFR.out,hsm,hmy];rfl
   go_wp2_with fail
   refine qaj (by kernel_rfl) (by kernel_rfl) ?_
   repeat (first | go_big_quiet_step ((first | (go_at_call 166;exact Calls.ext_of (HBA.out _)) | (go_at_call 165;exact Calls.ext_of (HSA.out _)) | (go_at_call 167;exact Calls.ext_of (HMA.out _)))) | quiet_step ((first | (go_at_call 166;exact Calls.ext_of (HBA.out _)) | (go_at_call 165;exact Calls.ext_of (HSA.out _)) | (go_at_call 167;exact Calls.ext_of (HMA.out _)))))
   refine wpQuiet_nil ?_
   intro w' hw'
   obtain ⟨⟨W,hbW⟩,hw''⟩:=hw'
   have hw3:w'=W:=hw''
   subst hw3
   have HBW:=hI (qac HB1.out hbW)
   clear hbW hw''
   go_wp2
   go_ret
   exact ⟨⟨_,rfl,by rw [HC.out];exact Or.inl ⟨rfl,rfl,rfl⟩⟩,HBW.out⟩
end Go.Proofs.YtjkecckndfcbjaaGreatDoor
namespace Go.Proofs.YtjkecckndfcbjaaGreatDoor
open Go.RowKit Nb
structure OkM (m:PM):Prop where
 k:1≤m.k∧m.k≤10
 fr:1≤m.fr∧m.fr≤9
 id:0≤m.id∧m.id≤999999
 t:0≤m.t∧m.t≤1000000
 bal:0≤m.bal∧m.bal≤1000000
 abal:0≤m.abal∧m.abal≤1000000
 ph:0≤m.ph∧m.ph≤4
 q:0≤m.q∧m.q≤511
 pay:m.pay.size≤300
 lo:0≤m.lo∧m.lo≤1000000
 hi:0≤m.hi∧m.hi≤1000000
 dn:0≤m.dn∧m.dn≤1000000
 ats:m.ats.size≤200
 att:∀ a ∈ m.ats.toList,(0≤a.1∧a.1≤1000000)∧0≤a.2∧a.2≤999999
 mks:m.mks.size≤9
 mkv:∀ j,j < m.mks.size→0≤m.mks[j]!∧m.mks[j]!≤1000000
theorem attL_mem {hi:Int} (l:List (Int×Int)) (lo:Int) (h:attL hi lo l=true):∀ a ∈ l,(lo < a.1∧a.1≤hi)∧okId a.2=true:=by
 induction l generalizing lo with
 | nil=>intro a ha;simp at ha
 | cons b l ih =>
   unfold attL at h
   simp only [Bool.and_eq_true,decide_eq_true_eq] at h
   obtain ⟨⟨⟨h1,h2⟩,h3⟩,h4⟩:=h
   intro a ha
   rcases List.mem_cons.1 ha with rfl | ha
   ·exact ⟨⟨h1,h2⟩,h3⟩
   ·have:=ih b.1 h4 a ha
    exact ⟨⟨by omega,this.1.2⟩,this.2⟩
theorem okM_of {m:PM} (h:chkM m=0):OkM m:=by
 unfold chkM at h
 by_cases hk:m.k < 1∨10 < m.k
 ·rw [if_pos hk] at h;omega
 rw [if_neg hk] at h
 cases hA:(decide (1≤m.fr∧m.fr≤9) && qgk (qbv m) m && mayB m)
 ·rw [hA] at h;simp at h
 simp only [Bool.and_eq_true,decide_eq_true_eq] at hA
 obtain ⟨⟨hf,hs⟩,hm⟩:=hA
 unfold qgk at hs
 rw [decide_eq_true_eq] at hs
 obtain ⟨-,-,s1,s2,s3,s4,s5,s6,s7,s8,s9,s10,s11,s12⟩:=hs
 unfold qbv at s1 s2 s3 s4 s5 s6 s7 s8 s9 s10 s11 s12
 dsimp only at s1 s2 s3 s4 s5 s6 s7 s8 s9 s10 s11 s12
 unfold mayB at hm
 by_cases h10:m.k=10
 ·rw [if_pos h10] at hm
  unfold proB mksB at hm
  simp only [Bool.and_eq_true,decide_eq_true_eq] at hm
  obtain ⟨⟨⟨a1,a2,a3,a4,a5,a6,a7,a8⟩,b1,b2⟩,c1⟩:=hm
  simp [h10] at s1 s2 s3 s4 s5 s6 s7
  have e7:m.pay.size=0:=by rw [←s7];rfl
  refine ⟨by omega,hf,by omega,by omega,by omega,by omega,by omega,by omega,by omega,⟨a1,a2⟩,⟨a3,a4⟩,⟨a6,a7⟩,b2,?_,a8,?_⟩
  ·intro a ha
   have:=attL_mem _ _ b1 a ha
   have h2:=this.2
   unfold okId at h2
   rw [decide_eq_true_eq] at h2
   exact ⟨⟨by omega,by omega⟩,by omega,by omega⟩
  ·intro j hj
   have:=c1 j hj
   unfold qde at this
   rw [decide_eq_true_eq] at this
   exact this
 ·rw [if_neg h10] at hm
  unfold okId qbn carB tolB at hm
  simp [h10] at s8 s9 s10 s11 s12
  have e11:m.ats.toList=[]:=by simp [s11]
  have e11':m.ats.size=0:=by simp [s11]
  have e12:m.mks.size=0:=by simp [s12]
  have hks:m.k=1∨m.k=2∨m.k=3∨m.k=4∨m.k=5∨m.k=6∨m.k=7∨m.k=8∨m.k=9:=by omega
  have hq:m.pay.size≤300∧(0≤m.id∧m.id≤999999)∧(0≤m.t∧m.t≤1000000)∧(0≤m.bal∧m.bal≤1000000)∧(0≤m.abal∧m.abal≤1000000)∧(0≤m.ph∧m.ph≤4)∧(0≤m.q∧m.q≤511):=by
   clear s8 s9 s10 s11 s12 s1
   rcases hks with e | e | e | e | e | e | e | e | e
   all_goals
    simp [e] at hm s2 s3 s4 s5 s6 s7
    try (have e7:m.pay.size=0:=by rw [←s7];rfl)
    omega
  obtain ⟨q1,q2,q3,q4,q5,q6,q7⟩:=hq
  refine ⟨by omega,hf,q2,q3,q4,q5,q6,q7,q1,by omega,by omega,by omega,by omega,?_,by omega,?_⟩
  ·intro a ha;rw [e11] at ha;simp at ha
  ·intro j hj;omega
def flA (d:List (Int×Int)):List Int:=d.flatMap fun a=>[a.1,a.2]
def m8 (m:PM):Array Int:=#[m.k,m.fr,m.id,m.t,m.bal,m.abal,m.ph,m.q]
def m3 (m:PM):Array Int:=#[m.lo,m.hi,m.dn]
def msgB (m:PM):List UInt8:=(nats (m8 m)).flatMap numB ++ qdg m.pay.data.toList ++ (nats (m3 m)).flatMap numB ++ rowB (nats (flA m.ats.toList).toArray) ++ rowB (nats m.mks)
theorem qew {d:Array Int} (h:∀ x ∈ d.toList,0≤x∧x≤9223372036854775807):LayN d:=by
 intro i hi
 rw [getElem!_pos d i hi]
 exact h _ (by simp)
theorem OkM.l8 {m:PM} (h:OkM m):LayN (m8 m):=by
 obtain ⟨h1,h2,h3,h4,h5,h6,h7,h8,-⟩:=h
 refine qew ?_
 intro x hx
 simp [m8] at hx
 omega
theorem OkM.l3 {m:PM} (h:OkM m):LayN (m3 m):=by
 have h1:=h.lo
 have h2:=h.hi
 have h3:=h.dn
 refine qew ?_
 intro x hx
 simp [m3] at hx
 omega
theorem flA_len (l:List (Int×Int)):(flA l).length=2 * l.length:=by
 induction l with
 | nil=>rfl
 | cons a l ih=>unfold flA at *;simp at *;omega
theorem OkM.la {m:PM} (h:OkM m):LayN (flA m.ats.toList).toArray:=by
 refine qew ?_
 intro x hx
 simp only [flA,List.mem_flatMap] at hx
 obtain ⟨a,ha,hx⟩:=hx
 have:=h.att a ha
 simp at hx
 omega
theorem OkM.lm {m:PM} (h:OkM m):LayN m.mks:=by
 intro i hi
 have:=h.mkv i hi
 omega
end Go.Proofs.YtjkecckndfcbjaaGreatDoor
namespace Go.Proofs.YtjkecckndfcbjaaGreatDoor
open Go.RowKit Nb
theorem chk_3 (m:PM):chkM m=0∨chkM m=2∨chkM m=30:=by
 unfold chkM
 split
 ·exact Or.inr (Or.inr rfl)
 split
 ·exact Or.inl rfl
 ·exact Or.inr (Or.inl rfl)
end Go.Proofs.YtjkecckndfcbjaaGreatDoor
namespace Go.Proofs.YtjkecckndfcbjaaGreatDoor
open Go.RowKit Nb
def WP (B b:Nat) (l:List UInt8) (W:World) (e:Ending) (w':World):Prop:=e=.returned (.tuple #[])∧Wrt B b l w'∧Below B W w'∧KeepT b W w'
theorem qcq (w:World) (o:Obj):(w.alloc o).heap[w.heap.size]?=some o:=by show (w.heap.push o)[w.heap.size]?=_;simp
theorem qim (w:World) (a o:Obj):((w.alloc a).alloc o).heap[w.heap.size + 1]?=some o:=by
 have h:=qcq (w.alloc a) o
 have e:(w.alloc a).heap.size=w.heap.size + 1:=by simp
 rw [e] at h
 exact h
end Go.Proofs.YtjkecckndfcbjaaGreatDoor
namespace Go.Proofs.YtjkecckndfcbjaaGreatDoor
open Go.RowKit Nb
def qcl (s:List UInt8) (most:Nat):Nat→RS→RS×List Nat
 | 0,r=>(r,[])
 | k + 1,r=>((qcl s most k (numR s most r).1).1,(numR s most r).2 :: (qcl s most k (numR s most r).1).2)
theorem qds (s:List UInt8) (most:Nat):∀ (k:Nat) (r:RS),(qcl s most k r).2.length=k
 | 0,_=>rfl
 | k + 1,r=>by rw [qcl];simp [qds s most k]
theorem qjj (s:List UInt8) (most:Nat):∀ (k:Nat) (r:RS),qcl s most (k + 1) r=((numR s most (qcl s most k r).1).1,(qcl s most k r).2 ++ [(numR s most (qcl s most k r).1).2])
 | 0,r=>by simp [qcl]
 | k + 1,r=>by
   rw [qcl,qjj s most k (numR s most r).1]
   conv=>rhs;rw [qcl]
   simp
theorem qow {s:List UInt8} {most:Nat}:∀ (k:Nat) (r:RS),(qcl s most k r).1.e=0→r.e=0∧s.drop r.pos=(qcl s most k r).2.flatMap numB ++ s.drop (qcl s most k r).1.pos∧(∀ n ∈ (qcl s most k r).2,n≤most)∧(r.pos≤s.length→(qcl s most k r).1.pos≤s.length)
 | 0,r,h=>⟨h,by simp [qcl],by simp [qcl],by simp [qcl]⟩
 | k + 1,r,h=>by
   rw [qcl] at h ⊢
   simp only at h ⊢
   obtain ⟨a1,a2,a3,a4⟩:=qow k (numR s most r).1 h
   obtain ⟨b1,b2,b3,_,b5⟩:=qiy (s:=s) (most:=most) (r:=r) (r':=(numR s most r).1) (n:=(numR s most r).2) rfl a1
   refine ⟨b1,?_,?_,fun h=>a4 (b5 h)⟩
   ·rw [b2,a2];simp
   ·intro n hn
    rcases List.mem_cons.1 hn with rfl | hn
    ·exact b3
    ·exact a3 n hn
theorem qki (s:List UInt8) (most:Nat) (r:RS):(rowR s most r).2.length≤most:=by
 unfold rowR
 split
 ·simp
 ·split
  ·simp
  ·rename_i h;exact (qny h).2
theorem qin (s:List UInt8) (most:Nat) (r:RS):(qcd s most r).2.length≤most:=by
 unfold qcd
 split
 ·simp
 ·split
  ·simp
  ·split
   ·simp
   ·split
    ·simp
    ·simp only [List.length_take];omega
structure Raw where
 r:RS
 n8:List Nat
 pay:List UInt8
 n3:List Nat
 l:List Nat
 ms:List Nat
def R8 (s:List UInt8):RS×List Nat:=qcl s 2000000 8 ⟨0,0⟩
def RT (s:List UInt8):RS×List UInt8:=qcd s 300 (R8 s).1
def R3 (s:List UInt8):RS×List Nat:=qcl s 2000000 3 (RT s).1
def RL (s:List UInt8):RS×List Nat:=rowR s 400 (R3 s).1
def RM (s:List UInt8):RS×List Nat:=rowR s 9 (RL s).1
def qbd (s:List UInt8):Raw:=⟨endR s (RM s).1,(R8 s).2,(RT s).2,(R3 s).2,(RL s).2,(RM s).2⟩
def unfl:List Nat→List (Int×Int)
 | a :: b :: l=>((a:Int),(b:Int)) :: unfl l
 | _=>[]
theorem qio:∀ l:List Nat,(unfl l).length=l.length / 2
 | []=>rfl
 | [_]=>by simp [unfl]
 | a :: b :: l=>by simp [unfl,qio l];omega
theorem qlz:∀ (l:List Nat) (k:Nat),2 * k + 1 < l.length→unfl (l.take (2 * (k + 1)))=unfl (l.take (2 * k)) ++ [(((l.getD (2 * k) 0:Nat):Int),((l.getD (2 * k + 1) 0:Nat):Int))]
 | [],k,h=>by simp at h
 | [_],k,h=>by simp at h
 | a :: b :: l,0,_=>by simp [unfl]
 | a :: b :: l,k + 1,h=>by
   have e1:2 * (k + 1 + 1)=2 * (k + 1) + 1 + 1:=by omega
   have e2:2 * (k + 1)=2 * k + 1 + 1:=by omega
   rw [e1,List.take_succ_cons,List.take_succ_cons,unfl,qlz l k (by simp at h;omega)]
   rw [e2,List.take_succ_cons,List.take_succ_cons,unfl]
   simp
theorem qox:∀ (l:List Nat),unfl (l.take (2 * (l.length / 2)))=unfl l
 | []=>rfl
 | [_]=>by simp [unfl]
 | a :: b :: l=>by
   have e1:2 * ((a :: b :: l).length / 2)=2 * (l.length / 2) + 1 + 1:=by simp;omega
   rw [e1,List.take_succ_cons,List.take_succ_cons,unfl,unfl,qox l]
theorem qwb:∀ l:List Nat,l.length % 2=0→(flA (unfl l)).map Int.toNat=l
 | [],_=>rfl
 | [_],h=>by simp at h
 | a :: b :: l,h=>by
   have ih:=qwb l (by simp at h;omega)
   unfold flA at ih ⊢
   simp [unfl,ih]
def pmOf (x:Raw) (aA:Option Addr) (aC:Nat) (mA:Option Addr) (mC:Nat):PM :=
 { k:=(x.n8.getD 0 0:Nat),fr:=(x.n8.getD 1 0:Nat),id:=(x.n8.getD 2 0:Nat),t:=(x.n8.getD 3 0:Nat),bal:=(x.n8.getD 4 0:Nat),abal:=(x.n8.getD 5 0:Nat),ph:=(x.n8.getD 6 0:Nat),q:=(x.n8.getD 7 0:Nat),
   pay:=⟨x.pay.toArray⟩,lo:=(x.n3.getD 0 0:Nat),hi:=(x.n3.getD 1 0:Nat),aA:=aA,aC:=aC,ats:=(unfl x.l).toArray,mA:=mA,mC:=mC,mks:=ints x.ms,dn:=(x.n3.getD 2 0:Nat) }
theorem chkM_at (x:Raw) (aA:Option Addr) (aC:Nat) (mA:Option Addr) (mC:Nat):chkM (pmOf x aA aC mA mC)=chkM (pmOf x none 0 none 0):=rfl
def qdc (s:List UInt8):Nat:=if (qbd s).r.e≠0 then (qbd s).r.e else if (qbd s).l.length % 2≠0 then 5 else (chkM (pmOf (qbd s) none 0 none 0)).toNat
theorem nats_le {d:Array Int} {most:Nat} (h:∀ x ∈ d.toList,0≤x∧x≤most):∀ n ∈ nats d,n≤most:=by
 intro n hn
 unfold nats at hn
 obtain ⟨x,hx,rfl⟩:=List.mem_map.1 hn
 have:=h x hx
 omega
theorem RM_eq (s:List UInt8):rowR s 9 (RL s).1=((RM s).1,(RM s).2):=by show RM s=_;generalize RM s=x;rfl
theorem RL_eq (s:List UInt8):rowR s 400 (R3 s).1=((RL s).1,(RL s).2):=by show RL s=_;generalize RL s=x;rfl
theorem RT_eq (s:List UInt8):qcd s 300 (R8 s).1=((RT s).1,(RT s).2):=by show RT s=_;generalize RT s=x;rfl
theorem R3_eq (s:List UInt8):qcl s 2000000 3 (RT s).1=R3 s:=rfl
theorem R8_eq (s:List UInt8):qcl s 2000000 8 ⟨0,0⟩=R8 s:=rfl
theorem raw_r (s:List UInt8):(qbd s).r=endR s (RM s).1:=by simp only [qbd]
theorem raw_ok (s:List UInt8) (h:(qbd s).r.e=0):s=(qbd s).n8.flatMap numB ++ qdg (qbd s).pay ++ (qbd s).n3.flatMap numB ++ rowB (qbd s).l ++ rowB (qbd s).ms∧(qbd s).n8.length=8∧(qbd s).n3.length=3:=by
 rw [raw_r] at h
 have hM:(RM s).1.e=0∧(RM s).1.pos ≥ s.length:=by
  generalize (RM s).1=x at h
  unfold endR at h
  split at h
  ·simp at h
  ·rename_i hn;exact ⟨h,by omega⟩
 obtain ⟨m1,m2,_,_,_⟩:=rowR_ok (RM_eq s) hM.1
 obtain ⟨l1,l2,_,_,_⟩:=rowR_ok (RL_eq s) m1
 have k3:=qow (s:=s) (most:=2000000) 3 (RT s).1
 rw [R3_eq] at k3
 obtain ⟨c1,c2,_,_⟩:=k3 l1
 obtain ⟨t1,t2,_,_⟩:=qnw (RT_eq s) c1
 have k8:=qow (s:=s) (most:=2000000) 8 ⟨0,0⟩
 rw [R8_eq] at k8
 obtain ⟨a1,a2,_,_⟩:=k8 t1
 have e0:s.drop (RM s).1.pos=[]:=List.drop_eq_nil_of_le hM.2
 have n8:=qds s 2000000 8 ⟨0,0⟩
 rw [R8_eq] at n8
 have n3:=qds s 2000000 3 (RT s).1
 rw [R3_eq] at n3
 refine ⟨?_,by simpa only [qbd] using n8,by simpa only [qbd] using n3⟩
 have a3:s=(R8 s).2.flatMap numB ++ s.drop (R8 s).1.pos:=a2
 simp only [qbd]
 rw [t2,c2,l2,m2,e0] at a3
 simp only [List.append_nil,←List.append_assoc] at a3
 exact a3
theorem nats_ints (l:List Nat):nats (ints l)=l:=by
 unfold nats ints
 simp [Function.comp_def]
theorem list8 {l:List Nat} (h:l.length=8):l=[l.getD 0 0,l.getD 1 0,l.getD 2 0,l.getD 3 0,l.getD 4 0,l.getD 5 0,l.getD 6 0,l.getD 7 0]:=by
 match l,h with
 | [a,b,c,d,e,f,g,i],_=>rfl
theorem list3 {l:List Nat} (h:l.length=3):l=[l.getD 0 0,l.getD 1 0,l.getD 2 0]:=by
 match l,h with
 | [a,b,c],_=>rfl
theorem msgB_raw (s:List UInt8) (h:(qbd s).r.e=0) (h2:(qbd s).l.length % 2=0) (aA:Option Addr) (aC:Nat) (mA:Option Addr) (mC:Nat):msgB (pmOf (qbd s) aA aC mA mC)=s:=by
 obtain ⟨h1,l8,l3⟩:=raw_ok s h
 generalize qbd s=x at h1 h2 l8 l3
 unfold msgB
 have e8:nats (m8 (pmOf x aA aC mA mC))=x.n8:=by
  conv=>rhs;rw [list8 l8]
  simp [nats,m8,pmOf]
 have e3:nats (m3 (pmOf x aA aC mA mC))=x.n3:=by
  conv=>rhs;rw [list3 l3]
  simp [nats,m3,pmOf]
 have eL:nats (flA (pmOf x aA aC mA mC).ats.toList).toArray=x.l:=by
  show (flA (unfl x.l).toArray.toList).toArray.toList.map Int.toNat=x.l
  simp [qwb x.l h2]
 have eM:nats (pmOf x aA aC mA mC).mks=x.ms:=nats_ints _
 have eP:(pmOf x aA aC mA mC).pay.data.toList=x.pay:=by simp [pmOf]
 rw [e8,e3,eL,eM,eP]
 exact h1.symm
theorem takeC_ok {s:List UInt8} (h:qdc s=0) (aA:Option Addr) (aC:Nat) (mA:Option Addr) (mC:Nat):(qbd s).r.e=0∧(qbd s).l.length % 2=0∧chkM (pmOf (qbd s) aA aC mA mC)=0∧msgB (pmOf (qbd s) aA aC mA mC)=s:=by
 unfold qdc at h
 split at h
 ·contradiction
 ·rename_i h1
  split at h
  ·omega
  ·rename_i h2
   have h1':(qbd s).r.e=0:=by omega
   have h2':(qbd s).l.length % 2=0:=by omega
   refine ⟨h1',h2',?_,msgB_raw s h1' h2' _ _ _ _⟩
   rw [chkM_at]
   rcases chk_3 (pmOf (qbd s) none 0 none 0) with h' | h' | h'
   ·exact h'
   ·rw [h'] at h;simp at h
   ·rw [h'] at h;simp at h
end Go.Proofs.YtjkecckndfcbjaaGreatDoor
namespace Go.Proofs.YtjkecckndfcbjaaGreatDoor
open Go.RowKit Nb
structure PR where
 ep:Int
 sq:Int
 sn:Bool
 k:Int
 dt:ByteArray
 st:ByteArray
def zR:PR:=⟨0,0,false,0,⟨#[]⟩,⟨#[]⟩⟩
def evC (k:Int) (d:ByteArray):Nat:=if k=1 then (if d.size≤300 then 0 else 2) else if k=2 then (if qdc d.data.toList=0 then 0 else 2) else if k=3 then (if d.size=0 then 0 else 2) else 30
def qoy (r:PR):Bool:=decide (1≤r.ep) && decide (r.ep≤1000000) && decide (0≤r.sq) && decide (r.sq≤1000000) && (r.sn == (r.sq == 0))
def qoz (r:PR):Bool:=if r.sn then decide (r.k=0) && decide (r.dt.size=0) && decide (r.st.size≤18000) else decide (evC r.k r.dt=0) && decide (r.st.size=0)
def recC (r:PR):Nat:=if qoy r && qoz r then 0 else 2
theorem qma (r:PR):recC r=0∨recC r=2:=by unfold recC;split <;> simp
theorem evC_3 (k:Int) (d:ByteArray):evC k d=0∨evC k d=2∨evC k d=30:=by unfold evC;(repeat' split) <;> simp
def recB (r:PR):List UInt8:=numB r.ep.toNat ++ numB r.sq.toNat ++ qez r.sn ++ (if r.sn then qdg r.st.data.toList else numB r.k.toNat ++ qdg r.dt.data.toList)
def recA (s:List UInt8):RS×Nat:=numR s 1000000 ⟨0,0⟩
def recQ (s:List UInt8):RS×Nat:=numR s 1000000 (recA s).1
def recF (s:List UInt8):RS×Bool:=qdx s (recQ s).1
def recS (s:List UInt8):RS×List UInt8:=qcd s 18000 (recF s).1
def recK (s:List UInt8):RS×Nat:=numR s 9 (recF s).1
def recD (s:List UInt8):RS×List UInt8:=qcd s 5000 (recK s).1
def recR (s:List UInt8):RS:=if (recF s).2 then endR s (recS s).1 else endR s (recD s).1
def recO (s:List UInt8):PR:=if (recF s).2 then ⟨(recA s).2,(recQ s).2,true,0,⟨#[]⟩,⟨(recS s).2.toArray⟩⟩ else ⟨(recA s).2,(recQ s).2,false,(recK s).2,⟨(recD s).2.toArray⟩,⟨#[]⟩⟩
def rtC (s:List UInt8):Nat:=if (recR s).e≠0 then (recR s).e else recC (recO s)
theorem ba_eq (b:ByteArray):(⟨b.data.toList.toArray⟩:ByteArray)=b:=by cases b;simp
theorem ba_nil {b:ByteArray} (h:b.size=0):b=⟨#[]⟩:=by
 cases b with
 | mk d=>have:d.size=0:=h;rw [Array.eq_empty_of_size_eq_zero this]
theorem evC_k {k:Int} {d:ByteArray} (h:evC k d=0):1≤k∧k≤3:=by
 unfold evC at h
 (repeat' split at h) <;> first | omega | cases h
theorem qrj (l:List Nat):(∀ n ∈ l,n≤2000000)→(l.flatMap numB).length≤9 * l.length:=by
 intro h
 induction l with
 | nil=>simp
 | cons n l ih =>
   have h1:=qaz n (by have:=h n (by simp);omega)
   have h2:=ih (fun x hx=>h x (by simp [hx]))
   rw [List.flatMap_cons,List.length_append,List.length_cons]
   omega
theorem takeC_len {s:List UInt8} (h:qdc s=0):s.length≤4300:=by
 obtain ⟨_,_,h3,h4⟩:=takeC_ok h none 0 none 0
 have hok:=okM_of h3
 generalize pmOf (qbd s) none 0 none 0=m at h3 h4 hok
 rw [←h4]
 have hla:(nats (flA m.ats.toList).toArray).length≤400:=by
  have:=hok.ats
  rw [qee,List.size_toArray,flA_len]
  simp
  omega
 have hlm:(nats m.mks).length≤9:=by rw [qee];exact hok.mks
 have f1:=qeb (nats (flA m.ats.toList).toArray) hok.la.nats
 have f2:=qeb (nats m.mks) hok.lm.nats
 have l8:(nats (m8 m)).length=8:=by rw [qee];rfl
 have l3:(nats (m3 m)).length=3:=by rw [qee];rfl
 have b8:∀ n ∈ nats (m8 m),n≤2000000:=nats_le (by
  intro x hx
  obtain ⟨h1,h2,h3,h4,h5,h6,h7,h8,-⟩:=hok
  simp [m8] at hx
  omega)
 have b3:∀ n ∈ nats (m3 m),n≤2000000:=nats_le (by
  intro x hx
  have h1:=hok.lo
  have h2:=hok.hi
  have h3:=hok.dn
  simp [m3] at hx
  omega)
 have g8:=qrj _ b8
 have g3:=qrj _ b3
 have hp:=hok.pay
 have q1:=qaz m.pay.data.toList.length (by simp;omega)
 have q2:=qaz (nats (flA m.ats.toList).toArray).length (by omega)
 have q3:=qaz (nats m.mks).length (by omega)
 have hpl:m.pay.data.toList.length=m.pay.size:=by simp
 unfold msgB qdg rowB
 simp only [List.length_append]
 omega
theorem evC_len {k:Int} {d:ByteArray} (h:evC k d=0):d.size≤5000:=by
 unfold evC at h
 split at h
 ·split at h
  ·omega
  ·cases h
 ·split at h
  ·split at h
   ·rename_i h2
    have:=takeC_len h2
    have e:d.data.toList.length=d.size:=by simp
    omega
   ·cases h
  ·split at h
   ·split at h
    ·omega
    ·cases h
   ·cases h
theorem qgi {r:PR} (h:recC r=0):1≤r.ep∧r.ep≤1000000∧0≤r.sq∧r.sq≤1000000∧(r.sn=true→r.k=0∧r.dt=⟨#[]⟩∧r.st.size≤18000)∧(r.sn=false→1≤r.k∧r.k≤3∧r.dt.size≤5000∧r.st=⟨#[]⟩):=by
 unfold recC at h
 split at h
 ·rename_i hh
  obtain ⟨h1,h2⟩:=(Bool.and_eq_true _ _).mp hh
  unfold qoy at h1
  unfold qoz at h2
  simp only [Bool.and_eq_true,decide_eq_true_eq] at h1
  refine ⟨by omega,by omega,by omega,by omega,fun hs=>?_,fun hs=>?_⟩
  ·rw [hs] at h2
   simp only [if_true,Bool.and_eq_true,decide_eq_true_eq] at h2
   exact ⟨h2.1.1,ba_nil h2.1.2,h2.2⟩
  ·rw [hs] at h2
   simp only [Bool.false_eq_true,if_false,Bool.and_eq_true,decide_eq_true_eq] at h2
   have:=evC_k h2.1
   exact ⟨by omega,by omega,evC_len h2.1,ba_nil h2.2⟩
 ·cases h
theorem rec_laid (r:PR) (h:recC r=0) (t:List UInt8):recR (recB r ++ t)=endR (recB r ++ t) ⟨(recB r).length,0⟩∧recO (recB r ++ t)=r:=by
 obtain ⟨h1,h2,h3,h4,hT,hF⟩:=qgi h
 generalize hs:recB r ++ t=s
 have hs':=hs
 unfold recB at hs
 simp only [List.append_assoc] at hs
 have eA:=qku (most:=1000000) (r:=⟨0,0⟩) (s:=s) rfl hs.symm (by omega) (by omega)
 have dA:=qgr (r:=⟨0,0⟩) (s:=s) hs.symm
 have eQ:=qku (most:=1000000) (r:=⟨0 + (numB r.ep.toNat).length,0⟩) (s:=s) rfl dA (by omega) (by omega)
 have dQ:=qgr (r:=⟨0 + (numB r.ep.toNat).length,0⟩) (s:=s) dA
 have eF:=qxk (r:=⟨0 + (numB r.ep.toNat).length + (numB r.sq.toNat).length,0⟩) (s:=s) rfl dQ
 have dF:=qgr (r:=⟨0 + (numB r.ep.toNat).length + (numB r.sq.toNat).length,0⟩) (s:=s) dQ
 have lF:(qez r.sn).length=1:=by cases r.sn <;> rfl
 rw [lF] at dF
 have xA:recA s=(⟨0 + (numB r.ep.toNat).length,0⟩,r.ep.toNat):=eA
 have xQ:recQ s=(⟨0 + (numB r.ep.toNat).length + (numB r.sq.toNat).length,0⟩,r.sq.toNat):=by unfold recQ;rw [xA];exact eQ
 have xF:recF s=(⟨0 + (numB r.ep.toNat).length + (numB r.sq.toNat).length + 1,0⟩,r.sn):=by unfold recF;rw [xQ];exact eF
 cases hsn:r.sn
 ·obtain ⟨k1,k3,hd,hst⟩:=hF hsn
  rw [hsn] at dF xF
  simp only [Bool.false_eq_true,if_false,List.append_assoc] at dF
  have hdl:r.dt.data.toList.length=r.dt.size:=by simp
  have eK:=qku (most:=9) (r:=⟨0 + (numB r.ep.toNat).length + (numB r.sq.toNat).length + 1,0⟩) (s:=s) rfl dF (by omega) (by omega)
  have dK:=qgr (r:=⟨0 + (numB r.ep.toNat).length + (numB r.sq.toNat).length + 1,0⟩) (s:=s) dF
  have eD:=qmx (most:=5000) (r:=⟨0 + (numB r.ep.toNat).length + (numB r.sq.toNat).length + 1 + (numB r.k.toNat).length,0⟩) (s:=s) rfl dK (by omega) (by omega)
  have xK:recK s=(⟨0 + (numB r.ep.toNat).length + (numB r.sq.toNat).length + 1 + (numB r.k.toNat).length,0⟩,r.k.toNat):=by unfold recK;rw [xF];exact eK
  have xD:recD s=(⟨0 + (numB r.ep.toNat).length + (numB r.sq.toNat).length + 1 + (numB r.k.toNat).length + (qdg r.dt.data.toList).length,0⟩,r.dt.data.toList):=by unfold recD;rw [xK];exact eD
  constructor
  ·unfold recR
   rw [xF,xD]
   simp only [Bool.false_eq_true,if_false]
   congr 2
   unfold recB
   rw [hsn]
   simp only [List.length_append,Bool.false_eq_true,if_false]
   have:(qez false).length=1:=rfl
   omega
  ·unfold recO
   rw [xF,xA,xQ,xK,xD]
   simp only [Bool.false_eq_true,if_false,ba_eq]
   obtain ⟨ep,sq,sn,k,dt,st⟩:=r
   simp only at h1 h3 k1 hst hsn
   subst hst hsn
   have y1:((ep.toNat:Nat):Int)=ep:=Int.toNat_of_nonneg (by omega)
   have y2:((sq.toNat:Nat):Int)=sq:=Int.toNat_of_nonneg h3
   have y3:((k.toNat:Nat):Int)=k:=Int.toNat_of_nonneg (by omega)
   simp only [y1,y2,y3]
 ·obtain ⟨k1,hd,hst⟩:=hT hsn
  rw [hsn] at dF xF
  simp only [if_true] at dF
  have hdl:r.st.data.toList.length=r.st.size:=by simp
  have eS:=qmx (most:=18000) (r:=⟨0 + (numB r.ep.toNat).length + (numB r.sq.toNat).length + 1,0⟩) (s:=s) rfl dF (by omega) (by omega)
  have xS:recS s=(⟨0 + (numB r.ep.toNat).length + (numB r.sq.toNat).length + 1 + (qdg r.st.data.toList).length,0⟩,r.st.data.toList):=by unfold recS;rw [xF];exact eS
  constructor
  ·unfold recR
   rw [xF,xS]
   simp only [if_true]
   congr 2
   unfold recB
   rw [hsn]
   simp only [List.length_append,if_true]
   have:(qez true).length=1:=rfl
   omega
  ·unfold recO
   rw [xF,xA,xQ,xS]
   simp only [if_true,ba_eq]
   obtain ⟨ep,sq,sn,k,dt,st⟩:=r
   simp only at h1 h3 k1 hd hsn
   subst k1 hd hsn
   have y1:((ep.toNat:Nat):Int)=ep:=Int.toNat_of_nonneg (by omega)
   have y2:((sq.toNat:Nat):Int)=sq:=Int.toNat_of_nonneg h3
   simp only [y1,y2]
theorem recA_eq (s:List UInt8):numR s 1000000 ⟨0,0⟩=((recA s).1,(recA s).2):=rfl
theorem recQ_eq (s:List UInt8):numR s 1000000 (recA s).1=((recQ s).1,(recQ s).2):=rfl
theorem recF_eq (s:List UInt8):qdx s (recQ s).1=((recF s).1,(recF s).2):=rfl
theorem recS_eq (s:List UInt8):qcd s 18000 (recF s).1=((recS s).1,(recS s).2):=rfl
theorem recK_eq (s:List UInt8):numR s 9 (recF s).1=((recK s).1,(recK s).2):=rfl
theorem recD_eq (s:List UInt8):qcd s 5000 (recK s).1=((recD s).1,(recD s).2):=rfl
theorem endR_ok {s:List UInt8} {r:RS} (h:(endR s r).e=0):r.e=0∧s.drop r.pos=[]:=by
 unfold endR at h
 split at h
 ·simp at h
 ·rename_i hn;exact ⟨h,List.drop_eq_nil_of_le (by omega)⟩
theorem rec_ok (s:List UInt8) (h:(recR s).e=0):recB (recO s)=s:=by
 unfold recR at h
 unfold recO
 cases hf:(recF s).2
 ·rw [hf] at h
  simp only [Bool.false_eq_true,if_false] at h ⊢
  obtain ⟨e1,e0⟩:=endR_ok h
  obtain ⟨d1,d2,-⟩:=qnw (recD_eq s) e1
  obtain ⟨k1,k2,-⟩:=qiy (recK_eq s) d1
  obtain ⟨f1,f2,-⟩:=qnx (recF_eq s) k1
  obtain ⟨q1,q2,-⟩:=qiy (recQ_eq s) f1
  obtain ⟨-,a2,-⟩:=qiy (recA_eq s) q1
  have a3:s=numB (recA s).2 ++ s.drop (recA s).1.pos:=a2
  rw [q2,f2,k2,d2,e0,hf] at a3
  unfold recB
  simp only [Bool.false_eq_true,if_false,Int.toNat_natCast]
  conv=>rhs;rw [a3]
  simp
 ·rw [hf] at h
  simp only [if_true] at h ⊢
  obtain ⟨e1,e0⟩:=endR_ok h
  obtain ⟨d1,d2,-⟩:=qnw (recS_eq s) e1
  obtain ⟨f1,f2,-⟩:=qnx (recF_eq s) d1
  obtain ⟨q1,q2,-⟩:=qiy (recQ_eq s) f1
  obtain ⟨-,a2,-⟩:=qiy (recA_eq s) q1
  have a3:s=numB (recA s).2 ++ s.drop (recA s).1.pos:=a2
  rw [q2,f2,d2,e0,hf] at a3
  unfold recB
  simp only [if_true,Int.toNat_natCast]
  conv=>rhs;rw [a3]
  simp
theorem qwc (r:PR) (h:recC r=0):rtC (recB r)=0∧recO (recB r)=r:=by
 obtain ⟨e1,e2⟩:=rec_laid r h []
 rw [List.append_nil] at e1 e2
 refine ⟨?_,e2⟩
 unfold rtC
 rw [e1,e2,h]
 simp [endR]
theorem rtC_ok {s:List UInt8} (h:rtC s=0):(recR s).e=0∧recC (recO s)=0∧recB (recO s)=s:=by
 unfold rtC at h
 split at h
 ·contradiction
 ·rename_i h1
  have h1':(recR s).e=0:=by omega
  exact ⟨h1',h,rec_ok s h1'⟩
end Go.Proofs.YtjkecckndfcbjaaGreatDoor
