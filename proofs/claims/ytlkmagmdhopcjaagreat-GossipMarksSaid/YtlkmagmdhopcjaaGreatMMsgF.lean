/- Texts that the law leans on. -/
import Derived.Test.YtlkmagmdhopcjaaGreatMOwnK
import Derived.Test.YtlkmagmdhopcjaaGreatMMsgE
import Derived.Test.YtlkmagmdhopcjaaGreatMErrA
import Derived.Laws.StructEq
import Derived.Lib.Strings
import Derived.Test.YtlkmagmdhopcjaaGreatMRowA
import Derived.Laws.BitsAllLaws
import Derived.Laws.BitsLemmas
import Derived.IntWalk
import Derived.Laws.IdiomStrings
import Derived.Laws.MakeOwn
import Derived.Test.YtlkmagmdhopcjaaGreatMBase
import Derived.Test.YtlkmagmdhopcjaaGreatShelf
namespace Go.Proofs.YtlkmagmdhopcjaaGreat
open Go.RowKit Go.Sort Go.Lib
def chkM (m:PM):Int:=if m.k < 1∨10 < m.k then 30 else if decide (1≤m.fr∧m.fr≤9) && qcr (qia m) m && mayB m then 0 else 2
def msgW:ByteArray:=⟨#[109,115,103]⟩
def ChkP_M (m:PM) (e:Ending) (w':World):Prop:=∃ v,e=.returned v∧ErrV w' (if chkM m=0 then [] else [msgW]) (chkM m) v
theorem RdM.bare {w:World} {m:PM} (h:RdM w m):RdM w (qia m):=by
 refine ⟨?_,?_,?_,?_,?_⟩
 ·unfold qia;by_cases hk:m.k=10
  ·simp [hk];exact h.ra
  ·simp [hk];exact fun h=>absurd h (by simp)
 ·unfold qia;by_cases hk:m.k=10
  ·simp [hk];exact h.rm
  ·simp [hk];exact RdI.none_
 ·unfold qia;by_cases hk:m.k=10
  ·simp [hk];exact h.sa
  ·simp [hk]
 ·unfold qia;by_cases hk:m.k=10
  ·simp [hk];exact h.sm
  ·simp [hk]
 ·unfold qia;have:=h.sp;simp only;split
  ·exact this
  ·simp [ByteArray.size]
set_option maxRecDepth 100000 in
set_option maxHeartbeats 4000000 in
theorem Check_any (m:PM) (w:World) (hm:RdM w m) :
 Calls Tryz.prog 55 #[msgV m] w fun e w'=>ChkP_M m e w'∧Below w.heap.size w w':=by
 have HN:=hI (fun W=>Name_any m.k W)
 by_cases hk:m.k < 1∨10 < m.k
 ·have HC:Hid (chkM m=30):=by show _=_;unfold chkM;rw [if_pos hk]
  have HF:=hI (fun W=>qlo msgW 30 W (by omega))
  have hd:decide (m.k < 1∨10 < m.k)=true:=by simpa using hk
  unfold msgV
  clear hk hm
  go_enter Tryz.func55,Tryz.ntmps55
  go_wp2_with fail
  refine (HN.out _).mono ?_
  rintro e w1 ⟨⟨s,rfl,hs⟩,hb1⟩
  rw [hd] at hs
  have HB1:=hI (qaa (bel1 w _) hb1)
  clear hb1
  go_wp2_with (go_at_call 139;refine (HF.out _).mono ?_;rintro e w2 ⟨v,rfl,hch,hb2⟩;have HCH:=hI hch;have HB2:=hI (qaa HB1.out hb2);clear hch hb2)
  go_ret
  exact ⟨⟨v,rfl,by rw [HC.out];exact Or.inr ⟨by omega,by simpa using HCH.out⟩⟩,HB2.out⟩
 ·have HK:=hI hk
  have hd:decide (m.k < 1∨10 < m.k)=false:=by simpa using hk
  have h1:1≤m.k:=by omega
  have h2:m.k≤10:=by omega
  have HM:=hI hm
  have HMA0:=hI (fun W (h:Below w.heap.size w W)=>mayM_any m W (hm.next h) h1 h2)
  have HBA0:=hI (fun W=>bare_any m W h1 h2)
  have HSA0:=hI (fun W (h:Below w.heap.size w W)=>Same_any (qia m) m W (hm.next h).bare (hm.next h))
  have HMV:Hid (∀ x,msgV x=.agg #[.int .i64 x.k,.int .i64 x.fr,.int .i64 x.id,.int .i64 x.t,.int .i64 x.bal,.int .i64 x.abal,.int .i64 x.ph,.int .i64 x.q,.string x.pay,.int .i64 x.lo,.int .i64 x.hi,.slice x.aA x.ats.size x.aC,.slice x.mA x.mks.size x.mC,.int .i64 x.dn]):=fun _=>rfl
  obtain ⟨bv,hbv⟩:∃ v,msgV (qia m)=v:=⟨_,rfl⟩
  rw [hbv] at HBA0 HSA0
  unfold msgV at HMA0 HBA0 HSA0 ⊢
  clear hk hm h1 h2 hbv
  go_enter Tryz.func55,Tryz.ntmps55
  go_wp2_with fail
  refine (HN.out _).mono ?_
  rintro e w1 ⟨⟨s,rfl,hs⟩,hb1⟩
  rw [hd] at hs
  have hlt:w.heap.size < w1.heap.size:=by have:=hb1.size;simp at this;omega
  have q0:∀ p:ExtW w1,p.to.cell? ⟨w.heap.size,0,none⟩=some (.int .i64 m.k):=fun p=>(p.h.cell (p:=⟨w.heap.size,0,none⟩) hlt).trans ((hb1.cell (p:=⟨w.heap.size,0,none⟩) (by simp)).trans (by simp))
  have q1:∀ p:ExtW w1,p.to.cell? ⟨w.heap.size,1,none⟩=some (.int .i64 m.fr):=fun p=>(p.h.cell (p:=⟨w.heap.size,1,none⟩) hlt).trans ((hb1.cell (p:=⟨w.heap.size,1,none⟩) (by simp)).trans (by simp))
  have q2:∀ p:ExtW w1,p.to.cell? ⟨w.heap.size,2,none⟩=some (.int .i64 m.id):=fun p=>(p.h.cell (p:=⟨w.heap.size,2,none⟩) hlt).trans ((hb1.cell (p:=⟨w.heap.size,2,none⟩) (by simp)).trans (by simp))
  have q3:∀ p:ExtW w1,p.to.cell? ⟨w.heap.size,3,none⟩=some (.int .i64 m.t):=fun p=>(p.h.cell (p:=⟨w.heap.size,3,none⟩) hlt).trans ((hb1.cell (p:=⟨w.heap.size,3,none⟩) (by simp)).trans (by simp))
  have q4:∀ p:ExtW w1,p.to.cell? ⟨w.heap.size,4,none⟩=some (.int .i64 m.bal):=fun p=>(p.h.cell (p:=⟨w.heap.size,4,none⟩) hlt).trans ((hb1.cell (p:=⟨w.heap.size,4,none⟩) (by simp)).trans (by simp))
  have q5:∀ p:ExtW w1,p.to.cell? ⟨w.heap.size,5,none⟩=some (.int .i64 m.abal):=fun p=>(p.h.cell (p:=⟨w.heap.size,5,none⟩) hlt).trans ((hb1.cell (p:=⟨w.heap.size,5,none⟩) (by simp)).trans (by simp))
  have q6:∀ p:ExtW w1,p.to.cell? ⟨w.heap.size,6,none⟩=some (.int .i64 m.ph):=fun p=>(p.h.cell (p:=⟨w.heap.size,6,none⟩) hlt).trans ((hb1.cell (p:=⟨w.heap.size,6,none⟩) (by simp)).trans (by simp))
  have q7:∀ p:ExtW w1,p.to.cell? ⟨w.heap.size,7,none⟩=some (.int .i64 m.q):=fun p=>(p.h.cell (p:=⟨w.heap.size,7,none⟩) hlt).trans ((hb1.cell (p:=⟨w.heap.size,7,none⟩) (by simp)).trans (by simp))
  have q8:∀ p:ExtW w1,p.to.cell? ⟨w.heap.size,8,none⟩=some (.string m.pay):=fun p=>(p.h.cell (p:=⟨w.heap.size,8,none⟩) hlt).trans ((hb1.cell (p:=⟨w.heap.size,8,none⟩) (by simp)).trans (by simp))
  have q9:∀ p:ExtW w1,p.to.cell? ⟨w.heap.size,9,none⟩=some (.int .i64 m.lo):=fun p=>(p.h.cell (p:=⟨w.heap.size,9,none⟩) hlt).trans ((hb1.cell (p:=⟨w.heap.size,9,none⟩) (by simp)).trans (by simp))
  have q10:∀ p:ExtW w1,p.to.cell? ⟨w.heap.size,10,none⟩=some (.int .i64 m.hi):=fun p=>(p.h.cell (p:=⟨w.heap.size,10,none⟩) hlt).trans ((hb1.cell (p:=⟨w.heap.size,10,none⟩) (by simp)).trans (by simp))
  have q11:∀ p:ExtW w1,p.to.cell? ⟨w.heap.size,11,none⟩=some (.slice m.aA m.ats.size m.aC):=fun p=>(p.h.cell (p:=⟨w.heap.size,11,none⟩) hlt).trans ((hb1.cell (p:=⟨w.heap.size,11,none⟩) (by simp)).trans (by simp))
  have q12:∀ p:ExtW w1,p.to.cell? ⟨w.heap.size,12,none⟩=some (.slice m.mA m.mks.size m.mC):=fun p=>(p.h.cell (p:=⟨w.heap.size,12,none⟩) hlt).trans ((hb1.cell (p:=⟨w.heap.size,12,none⟩) (by simp)).trans (by simp))
  have q13:∀ p:ExtW w1,p.to.cell? ⟨w.heap.size,13,none⟩=some (.int .i64 m.dn):=fun p=>(p.h.cell (p:=⟨w.heap.size,13,none⟩) hlt).trans ((hb1.cell (p:=⟨w.heap.size,13,none⟩) (by simp)).trans (by simp))
  have HB1:=hI (qaa (bel1 w _) hb1)
  have HMA:=hI (fun p:ExtW w1=>HMA0.out p.to (qaa HB1.out p.h))
  have HBA:=hI (fun p:ExtW w1=>HBA0.out p.to)
  have HSA:=hI (fun p:ExtW w1=>HSA0.out p.to (qaa HB1.out p.h))
  clear hb1 HMA0 HBA0 HSA0
  by_cases hf1:m.fr < 1
  ·have hf1':decide (m.fr < 1)=true:=by simp;omega
   have HC:Hid (chkM m=2):=by show _=_;unfold chkM;rw [if_neg HK.out];simp ;intro h;omega
   have HF:=hI (fun W=>qlo msgW 2 W (by omega))
   go_wp2_with fail
   refine qad (by kernel_rfl) (by kernel_rfl) ?_
   repeat (first | go_big_quiet_step ((first | (go_at_call 141;exact Calls.ext_of (HBA.out _)) | (go_at_call 140;exact Calls.ext_of (HSA.out _)) | (go_at_call 142;exact Calls.ext_of (HMA.out _)))) | quiet_step ((first | (go_at_call 141;exact Calls.ext_of (HBA.out _)) | (go_at_call 140;exact Calls.ext_of (HSA.out _)) | (go_at_call 142;exact Calls.ext_of (HMA.out _)))))
   refine wpQuiet_nil ?_
   intro w' hw'
   obtain ⟨⟨W,hbW⟩,hw''⟩:=hw'
   have hw3:w'=W:=hw''
   subst hw3
   have HBW:=hI (qaa HB1.out hbW)
   clear hbW hw''
   go_wp2_with (go_at_call 139;refine (HF.out _).mono ?_;rintro e w2 ⟨v,rfl,hch,hb2⟩;have HCH:=hI hch;have HB2:=hI (qaa HBW.out hb2);clear hch hb2)
   go_ret
   exact ⟨⟨v,rfl,by rw [HC.out];exact Or.inr ⟨by omega,by simpa using HCH.out⟩⟩,HB2.out⟩
  by_cases hf2:9 < m.fr
  ·have hf1':decide (m.fr < 1)=false:=by simp;omega
   have hf2':decide (9 < m.fr)=true:=by simp;omega
   have HC:Hid (chkM m=2):=by show _=_;unfold chkM;rw [if_neg HK.out];simp ;intro h1 h;omega
   have HF:=hI (fun W=>qlo msgW 2 W (by omega))
   go_wp2_with fail
   refine qad (by kernel_rfl) (by kernel_rfl) ?_
   repeat (first | go_big_quiet_step ((first | (go_at_call 141;exact Calls.ext_of (HBA.out _)) | (go_at_call 140;exact Calls.ext_of (HSA.out _)) | (go_at_call 142;exact Calls.ext_of (HMA.out _)))) | quiet_step ((first | (go_at_call 141;exact Calls.ext_of (HBA.out _)) | (go_at_call 140;exact Calls.ext_of (HSA.out _)) | (go_at_call 142;exact Calls.ext_of (HMA.out _)))))
   refine wpQuiet_nil ?_
   intro w' hw'
   obtain ⟨⟨W,hbW⟩,hw''⟩:=hw'
   have hw3:w'=W:=hw''
   subst hw3
   have HBW:=hI (qaa HB1.out hbW)
   clear hbW hw''
   go_wp2_with (go_at_call 139;refine (HF.out _).mono ?_;rintro e w2 ⟨v,rfl,hch,hb2⟩;have HCH:=hI hch;have HB2:=hI (qaa HBW.out hb2);clear hch hb2)
   go_ret
   exact ⟨⟨v,rfl,by rw [HC.out];exact Or.inr ⟨by omega,by simpa using HCH.out⟩⟩,HB2.out⟩
  have hf1':decide (m.fr < 1)=false:=by simp;omega
  have hf2':decide (9 < m.fr)=false:=by simp;omega
  have HFR:Hid (decide (1≤m.fr∧m.fr≤9)=true):=by show _=_;rw [decide_eq_true_iff];omega
  cases hsm:qcr (qia m) m
  ·rw [hsm] at HSA
   have HC:Hid (chkM m=2):=by show _=_;unfold chkM;rw [if_neg HK.out];simp [hsm]
   have HF:=hI (fun W=>qlo msgW 2 W (by omega))
   go_wp2_with fail
   refine qad (by kernel_rfl) (by kernel_rfl) ?_
   repeat (first | go_big_quiet_step ((first | (go_at_call 141;exact Calls.ext_of (HBA.out _)) | (go_at_call 140;exact Calls.ext_of (HSA.out _)) | (go_at_call 142;exact Calls.ext_of (HMA.out _)))) | quiet_step ((first | (go_at_call 141;exact Calls.ext_of (HBA.out _)) | (go_at_call 140;exact Calls.ext_of (HSA.out _)) | (go_at_call 142;exact Calls.ext_of (HMA.out _)))))
   refine wpQuiet_nil ?_
   intro w' hw'
   obtain ⟨⟨W,hbW⟩,hw''⟩:=hw'
   have hw3:w'=W:=hw''
   subst hw3
   have HBW:=hI (qaa HB1.out hbW)
   clear hbW hw''
   go_wp2_with (go_at_call 139;refine (HF.out _).mono ?_;rintro e w2 ⟨v,rfl,hch,hb2⟩;have HCH:=hI hch;have HB2:=hI (qaa HBW.out hb2);clear hch hb2)
   go_ret
   exact ⟨⟨v,rfl,by rw [HC.out];exact Or.inr ⟨by omega,by simpa using HCH.out⟩⟩,HB2.out⟩
  cases hmy:mayB m
  ·rw [hsm] at HSA
   rw [hmy] at HMA
   have HC:Hid (chkM m=2):=by show _=_;unfold chkM;rw [if_neg HK.out];simp [hmy]
   have HF:=hI (fun W=>qlo msgW 2 W (by omega))
   go_wp2_with fail
   refine qad (by kernel_rfl) (by kernel_rfl) ?_
   repeat (first | go_big_quiet_step ((first | (go_at_call 141;exact Calls.ext_of (HBA.out _)) | (go_at_call 140;exact Calls.ext_of (HSA.out _)) | (go_at_call 142;exact Calls.ext_of (HMA.out _)))) | quiet_step ((first | (go_at_call 141;exact Calls.ext_of (HBA.out _)) | (go_at_call 140;exact Calls.ext_of (HSA.out _)) | (go_at_call 142;exact Calls.ext_of (HMA.out _)))))
   refine wpQuiet_nil ?_
   intro w' hw'
   obtain ⟨⟨W,hbW⟩,hw''⟩:=hw'
   have hw3:w'=W:=hw''
   subst hw3
   have HBW:=hI (qaa HB1.out hbW)
   clear hbW hw''
   go_wp2_with (go_at_call 139;refine (HF.out _).mono ?_;rintro e w2 ⟨v,rfl,hch,hb2⟩;have HCH:=hI hch;have HB2:=hI (qaa HBW.out hb2);clear hch hb2)
   go_ret
   exact ⟨⟨v,rfl,by rw [HC.out];exact Or.inr ⟨by omega,by simpa using HCH.out⟩⟩,HB2.out⟩
  ·rw [hsm] at HSA
   rw [hmy] at HMA
   have HC:Hid (chkM m=0):=by show _=_;unfold chkM;rw [if_neg HK.out,HFR.out,hsm,hmy];rfl
   go_wp2_with fail
   refine qad (by kernel_rfl) (by kernel_rfl) ?_
   repeat (first | go_big_quiet_step ((first | (go_at_call 141;exact Calls.ext_of (HBA.out _)) | (go_at_call 140;exact Calls.ext_of (HSA.out _)) | (go_at_call 142;exact Calls.ext_of (HMA.out _)))) | quiet_step ((first | (go_at_call 141;exact Calls.ext_of (HBA.out _)) | (go_at_call 140;exact Calls.ext_of (HSA.out _)) | (go_at_call 142;exact Calls.ext_of (HMA.out _)))))
   refine wpQuiet_nil ?_
   intro w' hw'
   obtain ⟨⟨W,hbW⟩,hw''⟩:=hw'
   have hw3:w'=W:=hw''
   subst hw3
   have HBW:=hI (qaa HB1.out hbW)
   clear hbW hw''
   go_wp2
   go_ret
   exact ⟨⟨_,rfl,by rw [HC.out];exact Or.inl ⟨rfl,rfl,rfl⟩⟩,HBW.out⟩
end Go.Proofs.YtlkmagmdhopcjaaGreat
namespace Go.Proofs.YtlkmagmdhopcjaaGreat
open Go.RowKit Go.Extern.Stop Go.Stop Go.Extern Go.Sort
section
variable {P:Program} (w:World)
end
end Go.Proofs.YtlkmagmdhopcjaaGreat
namespace Go.Proofs.YtlkmagmdhopcjaaGreat
open Go.RowKit Go.Sort Go.Lib
def OutV (w:World) (l:List ByteArray) (c:Int) (v:Value):Prop:=match l with
 | []=>v=.pointer none
 | op :: l=>∃ b o u,v=.pointer (some ⟨b,o,none⟩)∧w.cell? ⟨b,o,none⟩=some (.string op)∧w.cell? ⟨b,o + 1,none⟩=some u∧Chain w l c u
theorem OutV.below {w w':World} (hb:Below w.heap.size w w') {l:List ByteArray} {c:Int} {v:Value} (h:OutV w l c v):OutV w' l c v:=by
 cases l with
 | nil=>exact h
 | cons op l =>
   obtain ⟨b,o,u,h1,h2,h3,h4⟩:=h
   exact ⟨b,o,u,h1,(hb.cell (p:=⟨b,o,none⟩) (qff h2)).trans h2,(hb.cell (p:=⟨b,o + 1,none⟩) (qff h3)).trans h3,h4.below hb⟩
end Go.Proofs.YtlkmagmdhopcjaaGreat
namespace Go.Proofs.YtlkmagmdhopcjaaGreat
open Go.RowKit Nb
structure OkM (m:PM):Prop where
 k:1≤m.k∧m.k≤10
 fr:1≤m.fr∧m.fr≤9
 id:0≤m.id∧m.id≤999999
 t:0≤m.t∧m.t≤1000000
 bal:0≤m.bal∧m.bal≤1000000
 abal:0≤m.abal∧m.abal≤1000000
 ph:0≤m.ph∧m.ph≤4
 q:0≤m.q∧m.q≤511
 pay:m.pay.size≤300
 lo:0≤m.lo∧m.lo≤1000000
 hi:0≤m.hi∧m.hi≤1000000
 dn:0≤m.dn∧m.dn≤1000000
 ats:m.ats.size≤200
 att:∀ a ∈ m.ats.toList,(0≤a.1∧a.1≤1000000)∧0≤a.2∧a.2≤999999
 mks:m.mks.size≤9
 mkv:∀ j,j < m.mks.size→0≤m.mks[j]!∧m.mks[j]!≤1000000
def flA (d:List (Int×Int)):List Int:=d.flatMap fun a=>[a.1,a.2]
def m8 (m:PM):Array Int:=#[m.k,m.fr,m.id,m.t,m.bal,m.abal,m.ph,m.q]
def m3 (m:PM):Array Int:=#[m.lo,m.hi,m.dn]
theorem qme {d:Array Int} (h:∀ x ∈ d.toList,0≤x∧x≤9223372036854775807):LayN d:=by
 intro i hi
 rw [getElem!_pos d i hi]
 exact h _ (by simp)
theorem OkM.l3 {m:PM} (h:OkM m):LayN (m3 m):=by
 have h1:=h.lo
 have h2:=h.hi
 have h3:=h.dn
 refine qme ?_
 intro x hx
 simp [m3] at hx
 omega
theorem OkM.la {m:PM} (h:OkM m):LayN (flA m.ats.toList).toArray:=by
 refine qme ?_
 intro x hx
 simp only [flA,List.mem_flatMap] at hx
 obtain ⟨a,ha,hx⟩:=hx
 have:=h.att a ha
 simp at hx
 omega
end Go.Proofs.YtlkmagmdhopcjaaGreat
namespace Go.Proofs.YtlkmagmdhopcjaaGreat
open Go.RowKit Nb
end Go.Proofs.YtlkmagmdhopcjaaGreat
namespace Go.Proofs.YtlkmagmdhopcjaaGreat
open Go.RowKit Nb
end Go.Proofs.YtlkmagmdhopcjaaGreat
namespace Go.Proofs.YtlkmagmdhopcjaaGreat
open Go.RowKit Go.Sort Go.Lib
def hasT (k:Int):List UInt8:=if k=1∨k=5 then [105,116,99] else if k=2 then [105,116] else if k=3 then [105,116,98,99] else if k=4∨k=8 then [105,98] else if k=6 then [105,98,99] else if k=7 then [105,116,98,97] else if k=9 then [105,99] else if k=10 then [112] else []
def hasB (k:Int) (c:Nat):Bool:=(hasT k).any fun x=>decide (x.toNat=c)
def inB (f:Bool) (n lo hi:Int):Bool:=if f then decide (lo≤n∧n≤hi) else decide (n=0)
end Go.Proofs.YtlkmagmdhopcjaaGreat
namespace Go.Proofs.YtlkmagmdhopcjaaGreat
open Go.RowKit Go.Sort Go.Lib
end Go.Proofs.YtlkmagmdhopcjaaGreat
namespace Go.Proofs.YtlkmagmdhopcjaaGreat
open Go.RowKit Nb
def c4 (m:PM):Bool:=decide (1≤m.fr) && decide (m.fr≤9) && (okId m.id == hasB m.k 105) && (okId m.id || decide (m.id=0))
def c5 (m:PM):Bool:=inB (hasB m.k 116) m.t 1 1000000 && inB (hasB m.k 98) m.bal 1 1000000 && inB (hasB m.k 99) m.q 1 511 && decide (m.pay.size≤300) && (hasB m.k 99 || decide (m.pay=⟨#[]⟩))
def c7 (m:PM):Bool:=decide (0≤m.abal) && decide (m.abal < m.bal) && decide (1≤m.ph) && decide (m.ph≤4) && (decide (0 < m.abal) || decide (3≤m.ph))
def c8 (m:PM):Bool:=decide (m.abal=0) && decide (m.ph=0)
def c11 (m:PM):Bool:=decide (m.lo=0) && decide (m.hi=0) && decide (m.dn=0) && decide (m.ats.size=0) && decide (m.mks.size=0)
end Go.Proofs.YtlkmagmdhopcjaaGreat
