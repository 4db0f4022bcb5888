/- Texts that the law leans on. -/
import Derived.Deep.CutRange
import Derived.Deep.CutBlock
import Derived.Test.YtlkmagmdhopcjaaGreatMRangesE
namespace Go.Proofs.YtlkmagmdhopcjaaGreat
open Go.RowKit Go.Sort Go.Lib
def soB (d:Array (Int×Int)) (b i:Nat):Bool:=decide (i < b) && !qae d[i]! d[i - 1]!
section
variable {lt:Int×Int→Int×Int→Bool} {d:Array (Int×Int)} {b i j:Nat}
theorem qud (h:(decide (i < b) && !lt d[i]! d[i - 1]!)=false):scanSorted lt d b i=i:=by rw [scanSorted,h];rfl
theorem sorted_go (h:(decide (i < b) && !lt d[i]! d[i - 1]!)=true):scanSorted lt d b i=scanSorted lt d b (i + 1):=by rw [scanSorted,h];rfl
theorem down_stop {k:Nat} (hk:k=j + 1) (h:lt d[k]! d[j]! = false):shiftDown lt k d=d:=by subst hk;unfold shiftDown;rw [h];rfl
theorem down_go {k:Nat} (hk:k=j + 1) (h:lt d[k]! d[j]! = true):shiftDown lt k d=shiftDown lt j (swp d k j):=by
 subst hk
 conv=>lhs;unfold shiftDown
 rw [h];rfl
theorem qsa:∀ (k:Nat) (d:Array (Int×Int)),(shiftDown lt k d).size=d.size
 | 0,_=>rfl
 | k + 1,d=>by
   unfold shiftDown
   split
   ·rfl
   ·rw [qsa k,size_swp]
theorem up_end (h:¬ j < b):shiftUp lt b j d=d:=by rw [shiftUp,if_neg h]
theorem up_stop (h:j < b) (hl:lt d[j]! d[j - 1]! = false):shiftUp lt b j d=d:=by rw [shiftUp,if_pos h,hl];rfl
theorem up_go (h:j < b) (hl:lt d[j]! d[j - 1]! = true):shiftUp lt b j d=shiftUp lt b (j + 1) (swp d j (j - 1)):=by
 conv=>lhs;rw [shiftUp,if_pos h,hl]
 rfl
end
set_option maxRecDepth 100000 in
set_option maxHeartbeats 16000000 in
theorem pins_any (blk off cap a b N:Nat) (d:Array (Int×Int)) (w:World) (hH:HoldsK qaf 2 w blk off d) (hblk:blk < w.heap.size) (hN:d.size=N) (hab:a < b) (hb:b≤N) (hsz:N≤1000000) :
 Calls Tryz.prog 279 #[.slice (some ⟨blk,off,none⟩) N cap,.int .i64 a,.int .i64 b,.func (.func 215) #[.agg #[]] #[]] w fun e w'=>e=.returned (.bool (partialInsertionSort qae d a b).2)∧Srt w blk off (partialInsertionSort qae d a b).1 w':=by
 have hS0:=Srt.refl hH hblk
 have HN:=hI hN
 clear hH hN
 obtain ⟨a1,w5,w6⟩:∃ n,n≤a + 1∧a + 1≤n:=⟨_,Nat.le_refl _,Nat.le_refl _⟩
 obtain ⟨n,w7,w8⟩:∃ n,n≤b - a∧b - a≤n:=⟨_,Nat.le_refl _,Nat.le_refl _⟩
 have HDEF:Hid (partialInsertionSort qae d a b=partialIns qae a b 5 a1 d):=by show partialIns qae a b 5 (a + 1) d=_;rw [show a + 1=a1 by omega]
 have s2:(a:Int) + 1=(a1:Int):=by omega
 have s3:(b:Int) - (a:Int)=(n:Int):=by omega
 go_enter Tryz.func279,Tryz.ntmps279
 go_wp2
 go_loopw [9,10] (fun vi vt wr=>∃ (i1 t:Nat) (dk:Array (Int×Int)),vi=.int .i64 i1∧vt=.int .i64 t∧t≤5∧a < i1∧i1≤b∧dk.size=N∧Srt w blk off dk wr∧Hid (partialIns qae a b (5 - t) i1 dk=partialIns qae a b 5 a1 d)) (fun _ vt _=>5 - (intOf vt).toNat)
 case atStart=>exact ⟨a1,0,d,rfl,rfl,by omega,by omega,by omega,HN.out,hS0,rfl⟩
 case round =>
  clear hS0
  obtain ⟨i1,t,dk,rfl,rfl,t1,t2,t3,hsk,hS,HM0⟩:=hrel
  have HSK:=hI hsk
  have k5:dk.size≤N:=Nat.le_of_eq hsk
  have k6:N≤dk.size:=Nat.le_of_eq hsk.symm
  clear hsk
  by_cases ht:t < 5
  ·have htz:(t:Int) < 5:=by omega
   obtain ⟨s,v3,v4⟩:∃ s,s + 1 + t≤5∧5≤s + 1 + t:=⟨4 - t,by omega,by omega⟩
   have HM:Hid (partialIns qae a b (s + 1) i1 dk=partialIns qae a b 5 a1 d):=by show _=_;rw [←HM0.out];congr 1;omega
   clear HM0
   go_wp2
   go_loopw [9] (fun vv wr=>∃ i:Nat,vv=.int .i64 i∧(a < i∧i1≤i)∧i≤b∧Srt w blk off dk wr∧Hid (scanSorted qae dk b i=scanSorted qae dk b i1)) (fun vv _=>b - (intOf vv).toNat)
   case atStart=>exact ⟨i1,rfl,by omega,by omega,hS,rfl⟩
   case round =>
    clear hS
    obtain ⟨i,rfl,hv1,hv2,hS,HMS⟩:=hrel
    go_upto_region 5 with fail
    go_cut [36] from 19 to 38 (fun c wx=>c=.bool (soB dk b i)∧Srt w blk off dk wx)
    case first =>
     by_cases hg:i < b
     ·have hgz:(i:Int) < (b:Int):=by omega
      have hvN:(i:Int) < (N:Int):=by omega
      obtain ⟨im,y1,y2⟩:∃ n,n + 1≤i∧i≤n + 1:=⟨i - 1,by omega,by omega⟩
      have eim:(i:Int) - 1=(im:Int):=by omega
      have eimw:IntKind.i64.wrap ((i:Int) - 1)=(im:Int):=by rw [IntKind.wrap_i64];omega
      have eimv:IntKind.i64.wrap (im:Int)=(im:Int):=by rw [IntKind.wrap_i64];omega
      have him:Hid (i - 1=im):=by show _=_;omega
      have bim:(im:Int) < (N:Int):=by omega
      obtain ⟨xi,hxi⟩:∃ x,dk[i]! = x:=⟨_,rfl⟩
      obtain ⟨xj,hxj⟩:∃ x,dk[im]! = x:=⟨_,rfl⟩
      have p0:=fun p=>(hS.cells (i:=i) (by omega) p).1
      have p1:=fun p=>(hS.cells (i:=i) (by omega) p).2
      have q0:=fun p=>(hS.cells (i:=im) (by omega) p).1
      have q1:=fun p=>(hS.cells (i:=im) (by omega) p).2
      simp only [hxi] at p0 p1
      simp only [hxj] at q0 q1
      have HXI:=hI hxi
      have HXJ:=hI hxj
      clear hxi hxj
      have hcv1:=fun W=>qcl xi xj W
      have HLv1:=hI (qbu xi xj)
      generalize cmpA xi xj=v1 at hcv1 HLv1
      have HCv1:=hI hcv1
      clear hcv1
      have HT:Hid (soB dk b i = !decide (v1 < 0)):=by show _=_;unfold soB;rw [him.out,HXI.out,HXJ.out,HLv1.out];simp [hg]
      by_cases hv:v1 < 0
      ·skip
       go_wp2_with fail
       refine qad (by kernel_rfl) (by kernel_rfl) ?_
       repeat (first | go_big_quiet_step ((go_at_call 215;exact Calls.ext_of (HCv1.out _))) | quiet_step ((go_at_call 215;exact Calls.ext_of (HCv1.out _))))
       refine wpQuiet_nil ?_
       intro w' hw'
       obtain ⟨⟨W,hbW⟩,hw''⟩:=hw'
       have hw3:w'=W:=hw''
       subst hw3
       have hS2:=hS.below hbW
       clear hbW hw''
       clear p0 p1 q0 q1
       go_wp2_with fail
       go_meet
       exact ⟨congrArg Value.bool (HT.out.trans (by simp [hv])).symm,hS2⟩
      ·have hvd:decide (v1 < 0)=false:=by simp;omega
       go_wp2_with fail
       refine qad (by kernel_rfl) (by kernel_rfl) ?_
       repeat (first | go_big_quiet_step ((go_at_call 215;exact Calls.ext_of (HCv1.out _))) | quiet_step ((go_at_call 215;exact Calls.ext_of (HCv1.out _))))
       refine wpQuiet_nil ?_
       intro w' hw'
       obtain ⟨⟨W,hbW⟩,hw''⟩:=hw'
       have hw3:w'=W:=hw''
       subst hw3
       have hS2:=hS.below hbW
       clear hbW hw''
       clear p0 p1 q0 q1
       go_wp2_with fail
       go_meet
       exact ⟨congrArg Value.bool (HT.out.trans (by simp [hv])).symm,hS2⟩
     ·have hgd:decide (i < b)=false:=by simp;omega
      have hgz:¬ (i:Int) < (b:Int):=by omega
      have HT:Hid (soB dk b i=false):=by show _=_;unfold soB;simp [hg]
      go_wp2_with fail
      go_quiet (fail)
      go_wp2_with fail
      go_meet
      exact ⟨congrArg Value.bool HT.out.symm,hS.below (qbc (RowKit.Below.refl _ _) nq)⟩
    case rest =>
     clear hS
     obtain ⟨rfl,hS⟩:=hcut
     cases hT:soB dk b i
     ·have HEi:Hid (i=scanSorted qae dk b i1):=by show _=_;rw [←HMS.out];exact (qud (lt:=qae) hT).symm
      have HTi:=hI hT
      clear HMS hT
      by_cases hib:i=b
      ·have q1':((i:Int) == (b:Int))=true:=by simp [hib]
       have q2':(i == b)=true:=by simp [hib]
       have HRES:Hid (partialInsertionSort qae d a b=(dk,true)):=by
        show _=_
        rw [HDEF.out,←HM.out,partialIns_succ,←HEi.out,if_pos hib]
       clear hib
       go_wp2
       go_ret
       exact ⟨qac (by rw [HRES.out]),by rw [HRES.out];exact hS⟩
      ·have q1':((i:Int) == (b:Int))=false:=by simp;omega
       have q2':(i == b)=false:=by simp [hib]
       by_cases h50:b - a < 50
       ·have z50:(n:Int) < 50:=by omega
        have HRES:Hid (partialInsertionSort qae d a b=(dk,false)):=by
         show _=_
         rw [HDEF.out,←HM.out,partialIns_succ,←HEi.out,if_neg hib,if_pos h50]
        go_wp2
        go_ret
        exact ⟨qac (by rw [HRES.out]),by rw [HRES.out];exact hS⟩
       ·have z50:decide ((n:Int) < 50)=false:=by simp;omega
        have HSUCC0:Hid (partialIns qae a b (s + 1) i1 dk=partialIns qae a b s i (fixUp qae b i (fixDown qae a i (swp dk i (i - 1))))):=by
         show _=_
         rw [partialIns_succ,←HEi.out,if_neg hib,if_neg h50]
        have hiN:(i:Int) < (N:Int):=by omega
        obtain ⟨im,y1,y2⟩:∃ n,n + 1≤i∧i≤n + 1:=⟨i - 1,by omega,by omega⟩
        have eim:(i:Int) - 1=(im:Int):=by omega
        have eimw:IntKind.i64.wrap ((i:Int) - 1)=(im:Int):=by rw [IntKind.wrap_i64];omega
        have eimv:IntKind.i64.wrap (im:Int)=(im:Int):=by rw [IntKind.wrap_i64];omega
        have him:Hid (i - 1=im):=by show _=_;omega
        have bim:(im:Int) < (N:Int):=by omega
        go_upto_region 11 with fail
        go_cut [] from 15 to 140 (fun wx=>Srt w blk off (swp (dk) i im) wx)
        case first =>
         obtain ⟨x1,hx1⟩:∃ x,(dk)[i]! = x:=⟨_,rfl⟩
         obtain ⟨a1,z1,a2,z2⟩:=hS.own (i:=i) (by omega)
         have hsw:=hS.swap (i:=i) (j:=im) (by omega) (by omega)
         rw [hx1] at a1 a2
         obtain ⟨x2,hx2⟩:∃ x,(dk)[im]! = x:=⟨_,rfl⟩
         obtain ⟨a3,z3,a4,z4⟩:=hS.own (i:=im) (by omega)
         rw [hx2] at a3 a4
         rw [hx1,hx2] at hsw
         clear hx1 hx2
         have HSW:=hI hsw
         clear hsw
         go_wp2_with fail
         go_region
         all_goals go_wp2_with fail
         go_meet
         exact HSW.out
        case rest =>
         clear hS
         have hS:=hcut
         clear hcut
         have HSZ1:Hid ((swp dk i im).size=N):=by show _=_;rw [size_swp];exact HSK.out
         rw [him.out] at HSUCC0
         generalize swp dk i im=d1 at hS HSUCC0 HSZ1
         have k3:d1.size≤N:=Nat.le_of_eq HSZ1.out
         have k4:N≤d1.size:=Nat.le_of_eq HSZ1.out.symm
         obtain ⟨ia,g1,g2⟩:∃ n,n≤i - a∧i - a≤n:=⟨_,Nat.le_refl _,Nat.le_refl _⟩
         obtain ⟨bi,g3,g4⟩:∃ n,n≤b - i∧b - i≤n:=⟨_,Nat.le_refl _,Nat.le_refl _⟩
         have s5:(i:Int) - (a:Int)=(ia:Int):=by omega
         have s6:(b:Int) - (i:Int)=(bi:Int):=by omega
         go_upto_if 65 with fail
         go_cut [11] from 15 to 140 (fun _ wx=>Srt w blk off (fixDown qae a i d1) wx)
         case first =>
          by_cases h2:2≤ia
          ·have h2z:(2:Int)≤(ia:Int):=by omega
           go_wp2
           go_loopw [11] (fun vj wr=>∃ (j:Nat) (dj:Array (Int×Int)),vj=.int .i64 j∧j≤im∧dj.size=N∧Srt w blk off dj wr∧Hid (shiftDown qae j dj=shiftDown qae im d1)) (fun vj _=>(intOf vj).toNat)
           case atStart=>exact ⟨im,d1,rfl,Nat.le_refl _,HSZ1.out,hS,rfl⟩
           case round =>
            clear hS
            obtain ⟨j,dj,rfl,u1,hsj,hS,HU⟩:=hrel
            have HSJ:=hI hsj
            have k7:dj.size≤N:=Nat.le_of_eq hsj
            have k8:N≤dj.size:=Nat.le_of_eq hsj.symm
            clear hsj
            by_cases hj0:1≤j
            ·have hjz:(1:Int)≤(j:Int):=by omega
             have hjN:(j:Int) < (N:Int):=by omega
             obtain ⟨jm,y1,y2⟩:∃ n,n + 1≤j∧j≤n + 1:=⟨j - 1,by omega,by omega⟩
             have ejm:(j:Int) - 1=(jm:Int):=by omega
             have ejmw:IntKind.i64.wrap ((j:Int) - 1)=(jm:Int):=by rw [IntKind.wrap_i64];omega
             have ejmv:IntKind.i64.wrap (jm:Int)=(jm:Int):=by rw [IntKind.wrap_i64];omega
             have hjm:Hid (j - 1=jm):=by show _=_;omega
             have bjm:(jm:Int) < (N:Int):=by omega
             obtain ⟨xi,hxi⟩:∃ x,dj[j]! = x:=⟨_,rfl⟩
             obtain ⟨xj,hxj⟩:∃ x,dj[jm]! = x:=⟨_,rfl⟩
             have p0:=fun p=>(hS.cells (i:=j) (by omega) p).1
             have p1:=fun p=>(hS.cells (i:=j) (by omega) p).2
             have q0:=fun p=>(hS.cells (i:=jm) (by omega) p).1
             have q1:=fun p=>(hS.cells (i:=jm) (by omega) p).2
             simp only [hxi] at p0 p1
             simp only [hxj] at q0 q1
             have HXI:=hI hxi
             have HXJ:=hI hxj
             clear hxi hxj
             have hcv1:=fun W=>qcl xi xj W
             have HLv1:=hI (qbu xi xj)
             generalize cmpA xi xj=v1 at hcv1 HLv1
             have HCv1:=hI hcv1
             clear hcv1
             by_cases hv:v1 < 0
             ·have HU2:Hid (shiftDown qae jm (swp dj j jm)=shiftDown qae im d1):=by
               show _=_
               exact (down_go (j:=jm) (by omega) (by rw [HXI.out,HXJ.out,HLv1.out];simp;omega)).symm.trans HU.out
              go_wp2_with fail
              refine qad (by kernel_rfl) (by kernel_rfl) ?_
              repeat (first | go_big_quiet_step ((go_at_call 215;exact Calls.ext_of (HCv1.out _))) | quiet_step ((go_at_call 215;exact Calls.ext_of (HCv1.out _))))
              refine wpQuiet_nil ?_
              intro w' hw'
              obtain ⟨⟨W,hbW⟩,hw''⟩:=hw'
              have hw3:w'=W:=hw''
              subst hw3
              have hS3:=hS.below hbW
              clear hbW hw''
              clear p0 p1 q0 q1 hS
              obtain ⟨r1,s1',r2,s2'⟩:=hS3.own (i:=j) (by omega)
              obtain ⟨r3,s3',r4,s4'⟩:=hS3.own (i:=jm) (by omega)
              have hsw:=hS3.swap (i:=j) (j:=jm) (by omega) (by omega)
              rw [HXI.out] at r1 r2
              rw [HXJ.out] at r3 r4
              rw [HXI.out,HXJ.out] at hsw
              have HSW:=hI hsw
              clear hsw hS3
              go_wp2_with fail
              go_region
              all_goals go_wp2
              exact ⟨⟨jm,swp dj j jm,rfl,by omega,by rw [size_swp];exact HSJ.out,HSW.out,HU2⟩,by simp [intOf];omega⟩
             ·have hvd:decide (v1 < 0)=false:=by simp;omega
              have HU2:Hid (dj=shiftDown qae im d1):=by
               show _=_
               rw [←HU.out,down_stop (j:=jm) (by omega) (by rw [HXI.out,HXJ.out,HLv1.out];simp;omega)]
              go_wp2_with fail
              refine qad (by kernel_rfl) (by kernel_rfl) ?_
              repeat (first | go_big_quiet_step ((go_at_call 215;exact Calls.ext_of (HCv1.out _))) | quiet_step ((go_at_call 215;exact Calls.ext_of (HCv1.out _))))
              refine wpQuiet_nil ?_
              intro w' hw'
              obtain ⟨⟨W,hbW⟩,hw''⟩:=hw'
              have hw3:w'=W:=hw''
              subst hw3
              have hS3:=hS.below hbW
              clear hbW hw''
              clear p0 p1 q0 q1 hS
              go_wp2_with fail
              go_meet
              exact (by unfold fixDown;rw [if_pos (by omega),him.out,←HU2.out];exact hS3)
            ·have hjz:¬ (1:Int)≤(j:Int):=by omega
             have hjd:decide ((1:Int)≤(j:Int))=false:=by simp;omega
             have HU2:Hid (dj=shiftDown qae im d1):=by
              show _=_
              rw [←HU.out,show j=0 by omega];rfl
             go_wp2_with fail
             go_meet
             exact (by unfold fixDown;rw [if_pos (by omega),him.out,←HU2.out];exact hS)
          ·have h2z:¬ (2:Int)≤(ia:Int):=by omega
           have h2d:decide ((2:Int)≤(ia:Int))=false:=by simp;omega
           go_wp2_with fail
           go_meet
           exact (by unfold fixDown;rw [if_neg (by omega)];exact hS)
         case rest =>
          clear hS
          have hS:=hcut
          clear hcut
          have HSZ2:Hid ((fixDown qae a i d1).size=N):=by
           show _=_
           unfold fixDown
           split
           ·rw [qsa];exact HSZ1.out
           ·exact HSZ1.out
          have HSUCC:=HSUCC0
          clear HSUCC0 HSZ1 k3 k4
          generalize fixDown qae a i d1=d2 at hS HSUCC HSZ2
          by_cases h3:2≤bi
          ·have h3z:(2:Int)≤(bi:Int):=by omega
           go_wp2
           go_loopw [12] (fun vj wr=>∃ (j:Nat) (dj:Array (Int×Int)),vj=.int .i64 j∧i < j∧j≤b∧dj.size=N∧Srt w blk off dj wr∧Hid (shiftUp qae b j dj=shiftUp qae b (i + 1) d2)) (fun vj _=>b - (intOf vj).toNat)
           case atStart=>exact ⟨i + 1,d2,by go_num,by omega,by omega,HSZ2.out,hS,rfl⟩
           case round =>
            clear hS
            obtain ⟨j,dj,rfl,u1,u2,hsj,hS,HU⟩:=hrel
            have HSJ:=hI hsj
            have k7:dj.size≤N:=Nat.le_of_eq hsj
            have k8:N≤dj.size:=Nat.le_of_eq hsj.symm
            clear hsj
            by_cases hjb:j < b
            ·have hjz:(j:Int) < (b:Int):=by omega
             have hjN:(j:Int) < (N:Int):=by omega
             obtain ⟨jm,y1,y2⟩:∃ n,n + 1≤j∧j≤n + 1:=⟨j - 1,by omega,by omega⟩
             have ejm:(j:Int) - 1=(jm:Int):=by omega
             have ejmw:IntKind.i64.wrap ((j:Int) - 1)=(jm:Int):=by rw [IntKind.wrap_i64];omega
             have ejmv:IntKind.i64.wrap (jm:Int)=(jm:Int):=by rw [IntKind.wrap_i64];omega
             have hjm:Hid (j - 1=jm):=by show _=_;omega
             have bjm:(jm:Int) < (N:Int):=by omega
             obtain ⟨xi,hxi⟩:∃ x,dj[j]! = x:=⟨_,rfl⟩
             obtain ⟨xj,hxj⟩:∃ x,dj[jm]! = x:=⟨_,rfl⟩
             have p0:=fun p=>(hS.cells (i:=j) (by omega) p).1
             have p1:=fun p=>(hS.cells (i:=j) (by omega) p).2
             have q0:=fun p=>(hS.cells (i:=jm) (by omega) p).1
             have q1:=fun p=>(hS.cells (i:=jm) (by omega) p).2
             simp only [hxi] at p0 p1
             simp only [hxj] at q0 q1
             have HXI:=hI hxi
             have HXJ:=hI hxj
             clear hxi hxj
             have hcv1:=fun W=>qcl xi xj W
             have HLv1:=hI (qbu xi xj)
             generalize cmpA xi xj=v1 at hcv1 HLv1
             have HCv1:=hI hcv1
             clear hcv1
             by_cases hv:v1 < 0
             ·have HU2:Hid (shiftUp qae b (j + 1) (swp dj j jm)=shiftUp qae b (i + 1) d2):=by
               show _=_
               rw [←HU.out,up_go hjb (by rw [hjm.out,HXI.out,HXJ.out,HLv1.out];simp;omega),hjm.out]
              go_wp2_with fail
              refine qad (by kernel_rfl) (by kernel_rfl) ?_
              repeat (first | go_big_quiet_step ((go_at_call 215;exact Calls.ext_of (HCv1.out _))) | quiet_step ((go_at_call 215;exact Calls.ext_of (HCv1.out _))))
              refine wpQuiet_nil ?_
              intro w' hw'
              obtain ⟨⟨W,hbW⟩,hw''⟩:=hw'
              have hw3:w'=W:=hw''
              subst hw3
              have hS3:=hS.below hbW
              clear hbW hw''
              clear p0 p1 q0 q1 hS
              obtain ⟨r1,s1',r2,s2'⟩:=hS3.own (i:=j) (by omega)
              obtain ⟨r3,s3',r4,s4'⟩:=hS3.own (i:=jm) (by omega)
              have hsw:=hS3.swap (i:=j) (j:=jm) (by omega) (by omega)
              rw [HXI.out] at r1 r2
              rw [HXJ.out] at r3 r4
              rw [HXI.out,HXJ.out] at hsw
              have HSW:=hI hsw
              clear hsw hS3
              go_wp2_with fail
              go_region
              all_goals go_wp2
              exact ⟨⟨j + 1,swp dj j jm,by go_num,by omega,by omega,by rw [size_swp];exact HSJ.out,HSW.out,HU2⟩,by simp [intOf];omega⟩
             ·have hvd:decide (v1 < 0)=false:=by simp;omega
              have HU2:Hid (dj=shiftUp qae b (i + 1) d2):=by
               show _=_
               rw [←HU.out,up_stop hjb (by rw [hjm.out,HXI.out,HXJ.out,HLv1.out];simp;omega)]
              go_wp2_with fail
              refine qad (by kernel_rfl) (by kernel_rfl) ?_
              repeat (first | go_big_quiet_step ((go_at_call 215;exact Calls.ext_of (HCv1.out _))) | quiet_step ((go_at_call 215;exact Calls.ext_of (HCv1.out _))))
              refine wpQuiet_nil ?_
              intro w' hw'
              obtain ⟨⟨W,hbW⟩,hw''⟩:=hw'
              have hw3:w'=W:=hw''
              subst hw3
              have hS3:=hS.below hbW
              clear hbW hw''
              clear p0 p1 q0 q1 hS
              have hS:=hS3
              clear hS3
              have HM2:Hid (partialIns qae a b s i dj=partialIns qae a b 5 a1 d):=by show _=_;rw [←HM.out,HSUCC.out,HU2.out];unfold fixUp;rw [if_pos (by omega)]
              go_wp2
              exact ⟨⟨i,t + 1,dj,rfl,by go_num,by omega,by omega,by omega,HSJ.out,hS,by show _=_;rw [←HM2.out];congr 1;omega⟩,by simp [intOf];omega⟩
            ·have hjz:¬ (j:Int) < (b:Int):=by omega
             have hjd:decide (j < b)=false:=by simp;omega
             have HU2:Hid (dj=shiftUp qae b (i + 1) d2):=by show _=_;rw [←HU.out,up_end hjb]
             have HM2:Hid (partialIns qae a b s i dj=partialIns qae a b 5 a1 d):=by show _=_;rw [←HM.out,HSUCC.out,HU2.out];unfold fixUp;rw [if_pos (by omega)]
             go_wp2
             exact ⟨⟨i,t + 1,dj,rfl,by go_num,by omega,by omega,by omega,HSJ.out,hS,by show _=_;rw [←HM2.out];congr 1;omega⟩,by simp [intOf];omega⟩
          ·have h3z:¬ (2:Int)≤(bi:Int):=by omega
           have h3d:decide ((2:Int)≤(bi:Int))=false:=by simp;omega
           have HM2:Hid (partialIns qae a b s i d2=partialIns qae a b 5 a1 d):=by show _=_;rw [←HM.out,HSUCC.out];unfold fixUp;rw [if_neg (by omega)]
           go_wp2
           exact ⟨⟨i,t + 1,d2,rfl,by go_num,by omega,by omega,by omega,HSZ2.out,hS,by show _=_;rw [←HM2.out];congr 1;omega⟩,by simp [intOf];omega⟩
     ·have hle:i < b:=by unfold soB at hT;simp at hT;exact hT.1
      have HM2:Hid (scanSorted qae dk b (i + 1)=scanSorted qae dk b i1):=by show _=_;rw [←HMS.out];exact (sorted_go (lt:=qae) hT).symm
      have HT2:=hI hT
      go_wp2
      exact ⟨⟨i + 1,by go_num,by omega,by omega,hS,HM2⟩,by simp [intOf];omega⟩
  ·have htz:decide ((t:Int) < 5)=false:=by simp;omega
   have HRES:Hid (partialInsertionSort qae d a b=(dk,false)):=by
    show _=_
    rw [HDEF.out,←HM0.out,show 5 - t=0 by omega];rfl
   go_wp2
   go_ret
   exact ⟨qac (by rw [HRES.out]),by rw [HRES.out];exact hS⟩
end Go.Proofs.YtlkmagmdhopcjaaGreat
namespace Go.Proofs.YtlkmagmdhopcjaaGreat
open Go.RowKit Go.Sort Go.Lib
section
variable {α:Type} [Inhabited α] {p:α→Bool} {d:Array α} {i j j0:Nat}
theorem qiv (h:(decide (i≤j) && p d[i]!)=false):scanUp p d j i=i:=by rw [scanUp,h];rfl
theorem qmx (h:(decide (i≤j) && p d[i]!)=true):scanUp p d j i=scanUp p d j (i + 1):=by rw [scanUp,h];rfl
theorem qgv (h:(decide (i≤j) && p d[j]!)=false):scanDown p d i j=j:=by
 cases j with
 | zero=>rfl
 | succ j=>unfold scanDown;rw [h];rfl
theorem qiw (hj:j=j0 + 1) (h:(decide (i≤j) && p d[j]!)=true):scanDown p d i j=scanDown p d i j0:=by
 subst hj;unfold scanDown;rw [h];cases j0 <;> rfl
end
def upB (d:Array (Int×Int)) (a j i:Nat):Bool:=decide (i≤j) && qae d[i]! d[a]!
def dnB (d:Array (Int×Int)) (a i j:Nat):Bool:=decide (i≤j) && !qae d[j]! d[a]!
theorem up_dn {d:Array (Int×Int)} {a J i j:Nat} (h1:upB d a J i=false) (h2:dnB d a i j=false) (hJ:j≤J) (hij:i≤j):i < j:=by
 rcases Nat.lt_or_ge i j with h | h
 ·exact h
 ·obtain rfl:i=j:=by omega
  unfold upB at h1
  unfold dnB at h2
  simp [hJ] at h1
  simp [h1] at h2
set_option maxRecDepth 100000 in
set_option maxHeartbeats 16000000 in
theorem part_any (blk off cap a b pv N:Nat) (d:Array (Int×Int)) (w:World) (hH:HoldsK qaf 2 w blk off d) (hblk:blk < w.heap.size) (hN:d.size=N) (h1:a≤pv) (h2:pv < b) (hb:b≤N) (hsz:N≤1000000) :
 Calls Tryz.prog 281 #[.slice (some ⟨blk,off,none⟩) N cap,.int .i64 a,.int .i64 b,.int .i64 pv,.func (.func 215) #[.agg #[]] #[]] w fun e w'=>e=.returned (.tuple #[.int .i64 (partition qae d a b pv).1,.bool (partition qae d a b pv).2.1])∧Srt w blk off (partition qae d a b pv).2.2 w':=by
 have hS0:=Srt.refl hH hblk
 have HN:=hI hN
 have k1:d.size≤N:=Nat.le_of_eq hN
 have k2:N≤d.size:=Nat.le_of_eq hN.symm
 clear hH hN
 have i1:(a:Int) < (N:Int):=by omega
 have i2:(pv:Int) < (N:Int):=by omega
 go_enter Tryz.func281,Tryz.ntmps281
 go_upto_region 1 with fail
 go_cut [] from 14 to 27 (fun wx=>Srt w blk off (swp (d) a pv) wx)
 case first =>
  by_cases heq:a=pv
  ·subst heq
   obtain ⟨x1,hx1⟩:∃ x,(d)[a]! = x:=⟨_,rfl⟩
   obtain ⟨a1,z1,a2,z2⟩:=hS0.own (i:=a) (by omega)
   have hsw:=hS0.swap (i:=a) (j:=a) (by omega) (by omega)
   rw [hx1] at a1 a2
   rw [hx1] at hsw
   clear hx1
   have HSW:=hI hsw
   clear hsw
   go_wp2_with fail
   go_region
   all_goals go_wp2_with fail
   go_meet
   exact HSW.out
  ·skip
   obtain ⟨x1,hx1⟩:∃ x,(d)[a]! = x:=⟨_,rfl⟩
   obtain ⟨a1,z1,a2,z2⟩:=hS0.own (i:=a) (by omega)
   have hsw:=hS0.swap (i:=a) (j:=pv) (by omega) (by omega)
   rw [hx1] at a1 a2
   obtain ⟨x2,hx2⟩:∃ x,(d)[pv]! = x:=⟨_,rfl⟩
   obtain ⟨a3,z3,a4,z4⟩:=hS0.own (i:=pv) (by omega)
   rw [hx2] at a3 a4
   rw [hx1,hx2] at hsw
   clear hx1 hx2
   have HSW:=hI hsw
   clear hsw
   go_wp2_with fail
   go_region
   all_goals go_wp2_with fail
   go_meet
   exact HSW.out
 case rest =>
  clear hS0
  have hS:=hcut
  clear hcut
  have HSD0:Hid ((swp d a pv).size=N):=by show _=_;rw [size_swp];exact HN.out
  have HDEF:Hid (partition qae d a b pv=(if scanUp (fun x=>qae x (swp d a pv)[a]!) (swp d a pv) (b - 1) (a + 1) > scanDown (fun x=>!qae x (swp d a pv)[a]!) (swp d a pv) (scanUp (fun x=>qae x (swp d a pv)[a]!) (swp d a pv) (b - 1) (a + 1)) (b - 1) then (scanDown (fun x=>!qae x (swp d a pv)[a]!) (swp d a pv) (scanUp (fun x=>qae x (swp d a pv)[a]!) (swp d a pv) (b - 1) (a + 1)) (b - 1),true,swp (swp d a pv) (scanDown (fun x=>!qae x (swp d a pv)[a]!) (swp d a pv) (scanUp (fun x=>qae x (swp d a pv)[a]!) (swp d a pv) (b - 1) (a + 1)) (b - 1)) a) else
   ((partLoop qae a (scanUp (fun x=>qae x (swp d a pv)[a]!) (swp d a pv) (b - 1) (a + 1) + 1) (scanDown (fun x=>!qae x (swp d a pv)[a]!) (swp d a pv) (scanUp (fun x=>qae x (swp d a pv)[a]!) (swp d a pv) (b - 1) (a + 1)) (b - 1) - 1) (swp (swp d a pv) (scanUp (fun x=>qae x (swp d a pv)[a]!) (swp d a pv) (b - 1) (a + 1)) (scanDown (fun x=>!qae x (swp d a pv)[a]!) (swp d a pv) (scanUp (fun x=>qae x (swp d a pv)[a]!) (swp d a pv) (b - 1) (a + 1)) (b - 1)))).1,false,
     swp (partLoop qae a (scanUp (fun x=>qae x (swp d a pv)[a]!) (swp d a pv) (b - 1) (a + 1) + 1) (scanDown (fun x=>!qae x (swp d a pv)[a]!) (swp d a pv) (scanUp (fun x=>qae x (swp d a pv)[a]!) (swp d a pv) (b - 1) (a + 1)) (b - 1) - 1) (swp (swp d a pv) (scanUp (fun x=>qae x (swp d a pv)[a]!) (swp d a pv) (b - 1) (a + 1)) (scanDown (fun x=>!qae x (swp d a pv)[a]!) (swp d a pv) (scanUp (fun x=>qae x (swp d a pv)[a]!) (swp d a pv) (b - 1) (a + 1)) (b - 1)))).2 (partLoop qae a (scanUp (fun x=>qae x (swp d a pv)[a]!) (swp d a pv) (b - 1) (a + 1) + 1) (scanDown (fun x=>!qae x (swp d a pv)[a]!) (swp d a pv) (scanUp (fun x=>qae x (swp d a pv)[a]!) (swp d a pv) (b - 1) (a + 1)) (b - 1) - 1) (swp (swp d a pv) (scanUp (fun x=>qae x (swp d a pv)[a]!) (swp d a pv) (b - 1) (a + 1)) (scanDown (fun x=>!qae x (swp d a pv)[a]!) (swp d a pv) (scanUp (fun x=>qae x (swp d a pv)[a]!) (swp d a pv) (b - 1) (a + 1)) (b - 1)))).1 a))):=rfl
  generalize swp d a pv=d1 at hS HDEF HSD0
  have HSD:=HSD0
  have k3:d1.size≤N:=Nat.le_of_eq HSD.out
  have k4:N≤d1.size:=Nat.le_of_eq HSD.out.symm
  obtain ⟨b1,w3,w4⟩:∃ n,n + 1≤b∧b≤n + 1:=⟨b - 1,by omega,by omega⟩
  obtain ⟨a1,w5,w6⟩:∃ n,n≤a + 1∧a + 1≤n:=⟨_,Nat.le_refl _,Nat.le_refl _⟩
  have hb1:b - 1=b1:=by omega
  have ha1:a + 1=a1:=by omega
  rw [hb1,ha1] at HDEF
  clear hb1 ha1
  have s1:(b:Int) - 1=(b1:Int):=by omega
  have s2:(a:Int) + 1=(a1:Int):=by omega
  go_wp2
  go_loopw [12] (fun vv wr=>∃ i:Nat,vv=.int .i64 i∧(a < i∧a1≤i)∧i≤b1 + 1∧Srt w blk off d1 wr∧Hid (scanUp (fun x=>qae x d1[a]!) d1 b1 i=scanUp (fun x=>qae x d1[a]!) d1 b1 a1)) (fun vv _=>b1 + 1 - (intOf vv).toNat)
  case atStart=>exact ⟨a1,rfl,by omega,by omega,hS,rfl⟩
  case round =>
   clear hS
   obtain ⟨i,rfl,hv1,hv2,hS,HM⟩:=hrel
   go_upto_region 3 with fail
   go_cut [47] from 32 to 49 (fun s wx=>s=.bool (upB d1 a b1 i)∧Srt w blk off d1 wx)
   case first =>
    by_cases hg:i≤b1
    ·have hgz:(i:Int)≤(b1:Int):=by omega
     have hvN:(i:Int) < (N:Int):=by omega
     obtain ⟨xv,hxv⟩:∃ x,d1[i]! = x:=⟨_,rfl⟩
     obtain ⟨xa,hxa⟩:∃ x,d1[a]! = x:=⟨_,rfl⟩
     have p0:=fun p=>(hS.cells (i:=i) (by omega) p).1
     have p1:=fun p=>(hS.cells (i:=i) (by omega) p).2
     have q0:=fun p=>(hS.cells (i:=a) (by omega) p).1
     have q1:=fun p=>(hS.cells (i:=a) (by omega) p).2
     simp only [hxv] at p0 p1
     simp only [hxa] at q0 q1
     have hcv1:=fun W=>qcl xv xa W
     have HLv1:=hI (qbu xv xa)
     generalize cmpA xv xa=v1 at hcv1 HLv1
     have HCv1:=hI hcv1
     clear hcv1
     have HT:Hid (upB d1 a b1 i=(decide (v1 < 0))):=by show _=_;unfold upB;rw [hxv,hxa,HLv1.out];simp [hg]
     clear hxv hxa
     by_cases hv:v1 < 0
     ·skip
      go_wp2_with fail
      refine qad (by kernel_rfl) (by kernel_rfl) ?_
      repeat (first | go_big_quiet_step ((go_at_call 215;exact Calls.ext_of (HCv1.out _))) | quiet_step ((go_at_call 215;exact Calls.ext_of (HCv1.out _))))
      refine wpQuiet_nil ?_
      intro w' hw'
      obtain ⟨⟨W,hbW⟩,hw''⟩:=hw'
      have hw3:w'=W:=hw''
      subst hw3
      have hS2:=hS.below hbW
      clear hbW hw''
      clear p0 p1 q0 q1
      go_wp2_with fail
      go_meet
      exact ⟨congrArg Value.bool (HT.out.trans (by simp [hv])).symm,hS2⟩
     ·have hvd:decide (v1 < 0)=false:=by simp;omega
      go_wp2_with fail
      refine qad (by kernel_rfl) (by kernel_rfl) ?_
      repeat (first | go_big_quiet_step ((go_at_call 215;exact Calls.ext_of (HCv1.out _))) | quiet_step ((go_at_call 215;exact Calls.ext_of (HCv1.out _))))
      refine wpQuiet_nil ?_
      intro w' hw'
      obtain ⟨⟨W,hbW⟩,hw''⟩:=hw'
      have hw3:w'=W:=hw''
      subst hw3
      have hS2:=hS.below hbW
      clear hbW hw''
      clear p0 p1 q0 q1
      go_wp2_with fail
      go_meet
      exact ⟨congrArg Value.bool (HT.out.trans (by simp [hv])).symm,hS2⟩
    ·have hgd:decide (i≤b1)=false:=by simp;omega
     have hgz:¬ (i:Int)≤(b1:Int):=by omega
     have HT:Hid (upB d1 a b1 i=false):=by show _=_;unfold upB;simp [hg]
     go_wp2_with fail
     go_quiet (fail)
     go_wp2_with fail
     go_meet
     exact ⟨congrArg Value.bool HT.out.symm,hS.below (qbc (RowKit.Below.refl _ _) nq)⟩
   case rest =>
    clear hS
    obtain ⟨rfl,hS⟩:=hcut
    cases hT:upB d1 a b1 i
    ·have HTi:=hI hT
     have HEi:Hid (i=scanUp (fun x=>qae x d1[a]!) d1 b1 a1):=by show _=_;rw [←HM.out];exact (qiv (p:=fun x=>qae x d1[a]!) (d:=d1) hT).symm
     clear HM hT
     go_wp2
     go_loopw [13] (fun vv wr=>∃ j:Nat,vv=.int .i64 j∧j≤b1∧i≤j + 1∧Srt w blk off d1 wr∧Hid (scanDown (fun x=>!qae x d1[a]!) d1 i j=scanDown (fun x=>!qae x d1[a]!) d1 i b1)) (fun vv _=>(intOf vv).toNat)
     case atStart=>exact ⟨b1,rfl,by omega,by omega,hS,rfl⟩
     case round =>
      clear hS
      obtain ⟨j,rfl,hv1,hv2,hS,HM⟩:=hrel
      go_upto_region 5 with fail
      go_cut [66] from 50 to 68 (fun s wx=>s=.bool (dnB d1 a i j)∧Srt w blk off d1 wx)
      case first =>
       by_cases hg:i≤j
       ·have hgz:(i:Int)≤(j:Int):=by omega
        have hvN:(j:Int) < (N:Int):=by omega
        obtain ⟨xv,hxv⟩:∃ x,d1[j]! = x:=⟨_,rfl⟩
        obtain ⟨xa,hxa⟩:∃ x,d1[a]! = x:=⟨_,rfl⟩
        have p0:=fun p=>(hS.cells (i:=j) (by omega) p).1
        have p1:=fun p=>(hS.cells (i:=j) (by omega) p).2
        have q0:=fun p=>(hS.cells (i:=a) (by omega) p).1
        have q1:=fun p=>(hS.cells (i:=a) (by omega) p).2
        simp only [hxv] at p0 p1
        simp only [hxa] at q0 q1
        have hcv1:=fun W=>qcl xv xa W
        have HLv1:=hI (qbu xv xa)
        generalize cmpA xv xa=v1 at hcv1 HLv1
        have HCv1:=hI hcv1
        clear hcv1
        have HT:Hid (dnB d1 a i j=(!decide (v1 < 0))):=by show _=_;unfold dnB;rw [hxv,hxa,HLv1.out];simp [hg]
        clear hxv hxa
        by_cases hv:v1 < 0
        ·skip
         go_wp2_with fail
         refine qad (by kernel_rfl) (by kernel_rfl) ?_
         repeat (first | go_big_quiet_step ((go_at_call 215;exact Calls.ext_of (HCv1.out _))) | quiet_step ((go_at_call 215;exact Calls.ext_of (HCv1.out _))))
         refine wpQuiet_nil ?_
         intro w' hw'
         obtain ⟨⟨W,hbW⟩,hw''⟩:=hw'
         have hw3:w'=W:=hw''
         subst hw3
         have hS2:=hS.below hbW
         clear hbW hw''
         clear p0 p1 q0 q1
         go_wp2_with fail
         go_meet
         exact ⟨congrArg Value.bool (HT.out.trans (by simp [hv])).symm,hS2⟩
        ·have hvd:decide (v1 < 0)=false:=by simp;omega
         go_wp2_with fail
         refine qad (by kernel_rfl) (by kernel_rfl) ?_
         repeat (first | go_big_quiet_step ((go_at_call 215;exact Calls.ext_of (HCv1.out _))) | quiet_step ((go_at_call 215;exact Calls.ext_of (HCv1.out _))))
         refine wpQuiet_nil ?_
         intro w' hw'
         obtain ⟨⟨W,hbW⟩,hw''⟩:=hw'
         have hw3:w'=W:=hw''
         subst hw3
         have hS2:=hS.below hbW
         clear hbW hw''
         clear p0 p1 q0 q1
         go_wp2_with fail
         go_meet
         exact ⟨congrArg Value.bool (HT.out.trans (by simp [hv])).symm,hS2⟩
       ·have hgd:decide (i≤j)=false:=by simp;omega
        have hgz:¬ (i:Int)≤(j:Int):=by omega
        have HT:Hid (dnB d1 a i j=false):=by show _=_;unfold dnB;simp [hg]
        go_wp2_with fail
        go_quiet (fail)
        go_wp2_with fail
        go_meet
        exact ⟨congrArg Value.bool HT.out.symm,hS.below (qbc (RowKit.Below.refl _ _) nq)⟩
      case rest =>
       clear hS
       obtain ⟨rfl,hS⟩:=hcut
       cases hT:dnB d1 a i j
       ·have HTj:=hI hT
        have HEj:Hid (j=scanDown (fun x=>!qae x d1[a]!) d1 i b1):=by show _=_;rw [←HM.out];exact (qgv (p:=fun x=>!qae x d1[a]!) (d:=d1) hT).symm
        clear HM hT
        by_cases hij:j < i
        ·have hz:(j:Int) < (i:Int):=by omega
         have HRES:Hid (partition qae d a b pv=(j,true,swp d1 j a)):=by
          show _=_
          rw [HDEF.out,←HEi.out,←HEj.out,if_pos hij]
         go_upto_region 8 with fail
         go_cut [] from 72 to 85 (fun wx=>Srt w blk off (swp (d1) j a) wx)
         case first =>
          by_cases heq:j=a
          ·subst heq
           obtain ⟨x1,hx1⟩:∃ x,(d1)[j]! = x:=⟨_,rfl⟩
           obtain ⟨a1,z1,a2,z2⟩:=hS.own (i:=j) (by omega)
           have hsw:=hS.swap (i:=j) (j:=j) (by omega) (by omega)
           rw [hx1] at a1 a2
           rw [hx1] at hsw
           clear hx1
           have HSW:=hI hsw
           clear hsw
           go_wp2_with fail
           go_region
           all_goals go_wp2_with fail
           go_meet
           exact HSW.out
          ·skip
           obtain ⟨x1,hx1⟩:∃ x,(d1)[j]! = x:=⟨_,rfl⟩
           obtain ⟨a1,z1,a2,z2⟩:=hS.own (i:=j) (by omega)
           have hsw:=hS.swap (i:=j) (j:=a) (by omega) (by omega)
           rw [hx1] at a1 a2
           obtain ⟨x2,hx2⟩:∃ x,(d1)[a]! = x:=⟨_,rfl⟩
           obtain ⟨a3,z3,a4,z4⟩:=hS.own (i:=a) (by omega)
           rw [hx2] at a3 a4
           rw [hx1,hx2] at hsw
           clear hx1 hx2
           have HSW:=hI hsw
           clear hsw
           go_wp2_with fail
           go_region
           all_goals go_wp2_with fail
           go_meet
           exact HSW.out
         case rest =>
          go_wp2
          exact bodyPost_ret (v:=.tuple #[.int .i64 j,.bool true]) (by simp [results,Tryz.results281,go_sem]) rfl ⟨by rw [HRES.out],by rw [HRES.out];exact hcut⟩
        ·have hz:¬ (j:Int) < (i:Int):=by omega
         have hzd:decide (j < i)=false:=by simp;omega
         have hlt:i < j:=up_dn HTi.out HTj.out hv1 (by omega)
         obtain ⟨J3,w1,w2⟩:∃ n,n + 1≤j∧j≤n + 1:=⟨j - 1,by omega,by omega⟩
         have s9:(j:Int) - 1=(J3:Int):=by omega
         have HPART:Hid (partition qae d a b pv=((partLoop qae a (i + 1) J3 (swp d1 i j)).1,false,swp (partLoop qae a (i + 1) J3 (swp d1 i j)).2 (partLoop qae a (i + 1) J3 (swp d1 i j)).1 a)):=by
          show _=_
          rw [HDEF.out,←HEi.out,←HEj.out,if_neg hij,show j - 1=J3 by omega]
         go_upto_region 10 with fail
         go_cut [] from 87 to 100 (fun wx=>Srt w blk off (swp (d1) i j) wx)
         case first =>
          obtain ⟨x1,hx1⟩:∃ x,(d1)[i]! = x:=⟨_,rfl⟩
          obtain ⟨a1,z1,a2,z2⟩:=hS.own (i:=i) (by omega)
          have hsw:=hS.swap (i:=i) (j:=j) (by omega) (by omega)
          rw [hx1] at a1 a2
          obtain ⟨x2,hx2⟩:∃ x,(d1)[j]! = x:=⟨_,rfl⟩
          obtain ⟨a3,z3,a4,z4⟩:=hS.own (i:=j) (by omega)
          rw [hx2] at a3 a4
          rw [hx1,hx2] at hsw
          clear hx1 hx2
          have HSW:=hI hsw
          clear hsw
          go_wp2_with fail
          go_region
          all_goals go_wp2_with fail
          go_meet
          exact HSW.out
         case rest =>
          clear hS
          generalize i=I2 at *
          generalize j=J2 at *
          go_wp2
          have HSZ2:Hid ((swp d1 I2 J2).size=N):=by show _=_;rw [size_swp];exact HSD.out
          go_loopw [12,13] (fun vi vj wr=>∃ (ii jj:Nat) (dk:Array (Int×Int)),vi=.int .i64 ii∧vj=.int .i64 jj∧a < ii∧ii≤jj + 1∧jj < b∧dk.size=N∧Srt w blk off dk wr∧Hid (partLoop qae a ii jj dk=partLoop qae a (I2 + 1) J3 (swp d1 I2 J2))) (fun vi vj _=>(intOf vj + 1 - intOf vi).toNat)
          case atStart=>exact ⟨I2 + 1,J3,swp d1 I2 J2,by go_num,rfl,by omega,by omega,by omega,HSZ2.out,hcut,rfl⟩
          case round =>
           clear hcut
           obtain ⟨ii,jj,dk,rfl,rfl,c1,c2,c3,hsk,hS,HLOOP⟩:=hrel
           have HSK:=hI hsk
           have k5:dk.size≤N:=Nat.le_of_eq hsk
           have k6:N≤dk.size:=Nat.le_of_eq hsk.symm
           clear hsk
           go_wp2
           go_loopw [12] (fun vv wr=>∃ i:Nat,vv=.int .i64 i∧(a < i∧ii≤i)∧i≤jj + 1∧Srt w blk off dk wr∧Hid (scanUp (fun x=>qae x dk[a]!) dk jj i=scanUp (fun x=>qae x dk[a]!) dk jj ii)) (fun vv _=>jj + 1 - (intOf vv).toNat)
           case atStart=>exact ⟨ii,rfl,by omega,by omega,hS,rfl⟩
           case round =>
            clear hS
            obtain ⟨i,rfl,hv1,hv2,hS,HM⟩:=hrel
            go_upto_region 13 with fail
            go_cut [120] from 105 to 122 (fun s wx=>s=.bool (upB dk a jj i)∧Srt w blk off dk wx)
            case first =>
             by_cases hg:i≤jj
             ·have hgz:(i:Int)≤(jj:Int):=by omega
              have hvN:(i:Int) < (N:Int):=by omega
              obtain ⟨xv,hxv⟩:∃ x,dk[i]! = x:=⟨_,rfl⟩
              obtain ⟨xa,hxa⟩:∃ x,dk[a]! = x:=⟨_,rfl⟩
              have p0:=fun p=>(hS.cells (i:=i) (by omega) p).1
              have p1:=fun p=>(hS.cells (i:=i) (by omega) p).2
              have q0:=fun p=>(hS.cells (i:=a) (by omega) p).1
              have q1:=fun p=>(hS.cells (i:=a) (by omega) p).2
              simp only [hxv] at p0 p1
              simp only [hxa] at q0 q1
              have hcv1:=fun W=>qcl xv xa W
              have HLv1:=hI (qbu xv xa)
              generalize cmpA xv xa=v1 at hcv1 HLv1
              have HCv1:=hI hcv1
              clear hcv1
              have HT:Hid (upB dk a jj i=(decide (v1 < 0))):=by show _=_;unfold upB;rw [hxv,hxa,HLv1.out];simp [hg]
              clear hxv hxa
              by_cases hv:v1 < 0
              ·skip
               go_wp2_with fail
               refine qad (by kernel_rfl) (by kernel_rfl) ?_
               repeat (first | go_big_quiet_step ((go_at_call 215;exact Calls.ext_of (HCv1.out _))) | quiet_step ((go_at_call 215;exact Calls.ext_of (HCv1.out _))))
               refine wpQuiet_nil ?_
               intro w' hw'
               obtain ⟨⟨W,hbW⟩,hw''⟩:=hw'
               have hw3:w'=W:=hw''
               subst hw3
               have hS2:=hS.below hbW
               clear hbW hw''
               clear p0 p1 q0 q1
               go_wp2_with fail
               go_meet
               exact ⟨congrArg Value.bool (HT.out.trans (by simp [hv])).symm,hS2⟩
              ·have hvd:decide (v1 < 0)=false:=by simp;omega
               go_wp2_with fail
               refine qad (by kernel_rfl) (by kernel_rfl) ?_
               repeat (first | go_big_quiet_step ((go_at_call 215;exact Calls.ext_of (HCv1.out _))) | quiet_step ((go_at_call 215;exact Calls.ext_of (HCv1.out _))))
               refine wpQuiet_nil ?_
               intro w' hw'
               obtain ⟨⟨W,hbW⟩,hw''⟩:=hw'
               have hw3:w'=W:=hw''
               subst hw3
               have hS2:=hS.below hbW
               clear hbW hw''
               clear p0 p1 q0 q1
               go_wp2_with fail
               go_meet
               exact ⟨congrArg Value.bool (HT.out.trans (by simp [hv])).symm,hS2⟩
             ·have hgd:decide (i≤jj)=false:=by simp;omega
              have hgz:¬ (i:Int)≤(jj:Int):=by omega
              have HT:Hid (upB dk a jj i=false):=by show _=_;unfold upB;simp [hg]
              go_wp2_with fail
              go_quiet (fail)
              go_wp2_with fail
              go_meet
              exact ⟨congrArg Value.bool HT.out.symm,hS.below (qbc (RowKit.Below.refl _ _) nq)⟩
            case rest =>
             clear hS
             obtain ⟨rfl,hS⟩:=hcut
             cases hT:upB dk a jj i
             ·have HTi:=hI hT
              have HEi:Hid (i=scanUp (fun x=>qae x dk[a]!) dk jj ii):=by show _=_;rw [←HM.out];exact (qiv (p:=fun x=>qae x dk[a]!) (d:=dk) hT).symm
              clear HM hT
              go_wp2
              go_loopw [13] (fun vv wr=>∃ j:Nat,vv=.int .i64 j∧j≤jj∧i≤j + 1∧Srt w blk off dk wr∧Hid (scanDown (fun x=>!qae x dk[a]!) dk i j=scanDown (fun x=>!qae x dk[a]!) dk i jj)) (fun vv _=>(intOf vv).toNat)
              case atStart=>exact ⟨jj,rfl,by omega,by omega,hS,rfl⟩
              case round =>
               clear hS
               obtain ⟨j,rfl,hv1,hv2,hS,HM⟩:=hrel
               go_upto_region 15 with fail
               go_cut [139] from 123 to 141 (fun s wx=>s=.bool (dnB dk a i j)∧Srt w blk off dk wx)
               case first =>
                by_cases hg:i≤j
                ·have hgz:(i:Int)≤(j:Int):=by omega
                 have hvN:(j:Int) < (N:Int):=by omega
                 obtain ⟨xv,hxv⟩:∃ x,dk[j]! = x:=⟨_,rfl⟩
                 obtain ⟨xa,hxa⟩:∃ x,dk[a]! = x:=⟨_,rfl⟩
                 have p0:=fun p=>(hS.cells (i:=j) (by omega) p).1
                 have p1:=fun p=>(hS.cells (i:=j) (by omega) p).2
                 have q0:=fun p=>(hS.cells (i:=a) (by omega) p).1
                 have q1:=fun p=>(hS.cells (i:=a) (by omega) p).2
                 simp only [hxv] at p0 p1
                 simp only [hxa] at q0 q1
                 have hcv1:=fun W=>qcl xv xa W
                 have HLv1:=hI (qbu xv xa)
                 generalize cmpA xv xa=v1 at hcv1 HLv1
                 have HCv1:=hI hcv1
                 clear hcv1
                 have HT:Hid (dnB dk a i j=(!decide (v1 < 0))):=by show _=_;unfold dnB;rw [hxv,hxa,HLv1.out];simp [hg]
                 clear hxv hxa
                 by_cases hv:v1 < 0
                 ·skip
                  go_wp2_with fail
                  refine qad (by kernel_rfl) (by kernel_rfl) ?_
                  repeat (first | go_big_quiet_step ((go_at_call 215;exact Calls.ext_of (HCv1.out _))) | quiet_step ((go_at_call 215;exact Calls.ext_of (HCv1.out _))))
                  refine wpQuiet_nil ?_
                  intro w' hw'
                  obtain ⟨⟨W,hbW⟩,hw''⟩:=hw'
                  have hw3:w'=W:=hw''
                  subst hw3
                  have hS2:=hS.below hbW
                  clear hbW hw''
                  clear p0 p1 q0 q1
                  go_wp2_with fail
                  go_meet
                  exact ⟨congrArg Value.bool (HT.out.trans (by simp [hv])).symm,hS2⟩
                 ·have hvd:decide (v1 < 0)=false:=by simp;omega
                  go_wp2_with fail
                  refine qad (by kernel_rfl) (by kernel_rfl) ?_
                  repeat (first | go_big_quiet_step ((go_at_call 215;exact Calls.ext_of (HCv1.out _))) | quiet_step ((go_at_call 215;exact Calls.ext_of (HCv1.out _))))
                  refine wpQuiet_nil ?_
                  intro w' hw'
                  obtain ⟨⟨W,hbW⟩,hw''⟩:=hw'
                  have hw3:w'=W:=hw''
                  subst hw3
                  have hS2:=hS.below hbW
                  clear hbW hw''
                  clear p0 p1 q0 q1
                  go_wp2_with fail
                  go_meet
                  exact ⟨congrArg Value.bool (HT.out.trans (by simp [hv])).symm,hS2⟩
                ·have hgd:decide (i≤j)=false:=by simp;omega
                 have hgz:¬ (i:Int)≤(j:Int):=by omega
                 have HT:Hid (dnB dk a i j=false):=by show _=_;unfold dnB;simp [hg]
                 go_wp2_with fail
                 go_quiet (fail)
                 go_wp2_with fail
                 go_meet
                 exact ⟨congrArg Value.bool HT.out.symm,hS.below (qbc (RowKit.Below.refl _ _) nq)⟩
               case rest =>
                clear hS
                obtain ⟨rfl,hS⟩:=hcut
                cases hT:dnB dk a i j
                ·have HTj:=hI hT
                 have HEj:Hid (j=scanDown (fun x=>!qae x dk[a]!) dk i jj):=by show _=_;rw [←HM.out];exact (qgv (p:=fun x=>!qae x dk[a]!) (d:=dk) hT).symm
                 clear HM hT
                 by_cases hij:j < i
                 ·have hz:(j:Int) < (i:Int):=by omega
                  have HRES:Hid (partition qae d a b pv=(j,false,swp dk j a)):=by
                   show _=_
                   rw [HPART.out,←HLOOP.out,partLoop_eq,←HEi.out,←HEj.out,if_pos hij]
                  go_upto_region 21 with fail
                  go_cut [] from 163 to 177 (fun wx=>Srt w blk off (swp (dk) j a) wx)
                  case first =>
                   by_cases heq:j=a
                   ·subst heq
                    obtain ⟨x1,hx1⟩:∃ x,(dk)[j]! = x:=⟨_,rfl⟩
                    obtain ⟨a1,z1,a2,z2⟩:=hS.own (i:=j) (by omega)
                    have hsw:=hS.swap (i:=j) (j:=j) (by omega) (by omega)
                    rw [hx1] at a1 a2
                    rw [hx1] at hsw
                    clear hx1
                    have HSW:=hI hsw
                    clear hsw
                    go_wp2_with fail
                    go_region
                    all_goals go_wp2_with fail
                    go_meet
                    exact HSW.out
                   ·skip
                    obtain ⟨x1,hx1⟩:∃ x,(dk)[j]! = x:=⟨_,rfl⟩
                    obtain ⟨a1,z1,a2,z2⟩:=hS.own (i:=j) (by omega)
                    have hsw:=hS.swap (i:=j) (j:=a) (by omega) (by omega)
                    rw [hx1] at a1 a2
                    obtain ⟨x2,hx2⟩:∃ x,(dk)[a]! = x:=⟨_,rfl⟩
                    obtain ⟨a3,z3,a4,z4⟩:=hS.own (i:=a) (by omega)
                    rw [hx2] at a3 a4
                    rw [hx1,hx2] at hsw
                    clear hx1 hx2
                    have HSW:=hI hsw
                    clear hsw
                    go_wp2_with fail
                    go_region
                    all_goals go_wp2_with fail
                    go_meet
                    exact HSW.out
                  case rest =>
                   go_wp2
                   exact bodyPost_ret (v:=.tuple #[.int .i64 j,.bool false]) (by simp [results,Tryz.results281,go_sem]) rfl ⟨by rw [HRES.out],by rw [HRES.out];exact hcut⟩
                 ·have hz:¬ (j:Int) < (i:Int):=by omega
                  have hzd:decide (j < i)=false:=by simp;omega
                  have hlt:i < j:=up_dn HTi.out HTj.out hv1 (by omega)
                  have HL2:Hid (partLoop qae a (i + 1) (j - 1) (swp dk i j)=partLoop qae a (I2 + 1) J3 (swp d1 I2 J2)):=by
                   show _=_
                   rw [←HLOOP.out,partLoop_eq qae a ii jj dk,←HEi.out,←HEj.out,if_neg hij]
                  go_upto_region 18 with fail
                  go_cut [] from 105 to 162 (fun wx=>Srt w blk off (swp (dk) i j) wx)
                  case first =>
                   obtain ⟨x1,hx1⟩:∃ x,(dk)[i]! = x:=⟨_,rfl⟩
                   obtain ⟨a1,z1,a2,z2⟩:=hS.own (i:=i) (by omega)
                   have hsw:=hS.swap (i:=i) (j:=j) (by omega) (by omega)
                   rw [hx1] at a1 a2
                   obtain ⟨x2,hx2⟩:∃ x,(dk)[j]! = x:=⟨_,rfl⟩
                   obtain ⟨a3,z3,a4,z4⟩:=hS.own (i:=j) (by omega)
                   rw [hx2] at a3 a4
                   rw [hx1,hx2] at hsw
                   clear hx1 hx2
                   have HSW:=hI hsw
                   clear hsw
                   go_wp2_with fail
                   go_region
                   all_goals go_wp2_with fail
                   go_meet
                   exact HSW.out
                  case rest =>
                   obtain ⟨j0,w1,w2⟩:∃ n,n + 1≤j∧j≤n + 1:=⟨j - 1,by omega,by omega⟩
                   have s9:(j:Int) - 1=(j0:Int):=by omega
                   have HJ0:Hid (j - 1=j0):=by show _=_;omega
                   rw [HJ0.out] at HL2
                   clear hS
                   go_wp2
                   exact ⟨⟨i + 1,j0,swp dk i j,by go_num,rfl,by omega,by omega,by omega,by rw [size_swp];exact HSK.out,hcut,HL2⟩,by simp [intOf];omega⟩
                ·have hle:i≤j:=by unfold dnB at hT;simp at hT;exact hT.1
                 obtain ⟨j0,w1,w2⟩:∃ n,n + 1≤j∧j≤n + 1:=⟨j - 1,by omega,by omega⟩
                 have s9:(j:Int) - 1=(j0:Int):=by omega
                 have HM2:Hid (scanDown (fun x=>!qae x dk[a]!) dk i j0=scanDown (fun x=>!qae x dk[a]!) dk i jj):=by show _=_;rw [←HM.out];exact (qiw (p:=fun x=>!qae x dk[a]!) (d:=dk) (by omega) hT).symm
                 have HT2:=hI hT
                 go_wp2
                 exact ⟨⟨j0,rfl,by omega,by omega,hS,HM2⟩,by simp [intOf];omega⟩
             ·have hle:i≤jj:=by unfold upB at hT;simp at hT;exact hT.1
              have HM2:Hid (scanUp (fun x=>qae x dk[a]!) dk jj (i + 1)=scanUp (fun x=>qae x dk[a]!) dk jj ii):=by show _=_;rw [←HM.out];exact (qmx (p:=fun x=>qae x dk[a]!) (d:=dk) hT).symm
              have HT2:=hI hT
              go_wp2
              exact ⟨⟨i + 1,by go_num,by omega,by omega,hS,HM2⟩,by simp [intOf];omega⟩
       ·have hle:i≤j:=by unfold dnB at hT;simp at hT;exact hT.1
        obtain ⟨j0,w1,w2⟩:∃ n,n + 1≤j∧j≤n + 1:=⟨j - 1,by omega,by omega⟩
        have s9:(j:Int) - 1=(j0:Int):=by omega
        have HM2:Hid (scanDown (fun x=>!qae x d1[a]!) d1 i j0=scanDown (fun x=>!qae x d1[a]!) d1 i b1):=by show _=_;rw [←HM.out];exact (qiw (p:=fun x=>!qae x d1[a]!) (d:=d1) (by omega) hT).symm
        have HT2:=hI hT
        go_wp2
        exact ⟨⟨j0,rfl,by omega,by omega,hS,HM2⟩,by simp [intOf];omega⟩
    ·have hle:i≤b1:=by unfold upB at hT;simp at hT;exact hT.1
     have HM2:Hid (scanUp (fun x=>qae x d1[a]!) d1 b1 (i + 1)=scanUp (fun x=>qae x d1[a]!) d1 b1 a1):=by show _=_;rw [←HM.out];exact (qmx (p:=fun x=>qae x d1[a]!) (d:=d1) hT).symm
     have HT2:=hI hT
     go_wp2
     exact ⟨⟨i + 1,by go_num,by omega,by omega,hS,HM2⟩,by simp [intOf];omega⟩
end Go.Proofs.YtlkmagmdhopcjaaGreat
namespace Go.Proofs.YtlkmagmdhopcjaaGreat
open Go.RowKit Go.Sort Go.Lib
def upE (d:Array (Int×Int)) (a j i:Nat):Bool:=decide (i≤j) && !qae d[a]! d[i]!
def dnE (d:Array (Int×Int)) (a i j:Nat):Bool:=decide (i≤j) && qae d[a]! d[j]!
theorem up_dnE {d:Array (Int×Int)} {a J i j:Nat} (h1:upE d a J i=false) (h2:dnE d a i j=false) (hJ:j≤J) (hij:i≤j):i < j:=by
 rcases Nat.lt_or_ge i j with h | h
 ·exact h
 ·obtain rfl:i=j:=by omega
  unfold upE at h1
  unfold dnE at h2
  simp [hJ] at h1
  simp [h1] at h2
set_option maxRecDepth 100000 in
set_option maxHeartbeats 16000000 in
theorem qyn (blk off cap a b pv N:Nat) (d:Array (Int×Int)) (w:World) (hH:HoldsK qaf 2 w blk off d) (hblk:blk < w.heap.size) (hN:d.size=N) (h1:a≤pv) (h2:pv < b) (hb:b≤N) (hsz:N≤1000000) :
 Calls Tryz.prog 280 #[.slice (some ⟨blk,off,none⟩) N cap,.int .i64 a,.int .i64 b,.int .i64 pv,.func (.func 215) #[.agg #[]] #[]] w fun e w'=>e=.returned (.int .i64 (partitionEqual qae d a b pv).1)∧Srt w blk off (partitionEqual qae d a b pv).2 w':=by
 have hS0:=Srt.refl hH hblk
 have HN:=hI hN
 have k1:d.size≤N:=Nat.le_of_eq hN
 have k2:N≤d.size:=Nat.le_of_eq hN.symm
 clear hH hN
 have i1:(a:Int) < (N:Int):=by omega
 have i2:(pv:Int) < (N:Int):=by omega
 go_enter Tryz.func280,Tryz.ntmps280
 go_upto_region 1 with fail
 go_cut [] from 13 to 26 (fun wx=>Srt w blk off (swp (d) a pv) wx)
 case first =>
  by_cases heq:a=pv
  ·subst heq
   obtain ⟨x1,hx1⟩:∃ x,(d)[a]! = x:=⟨_,rfl⟩
   obtain ⟨a1,z1,a2,z2⟩:=hS0.own (i:=a) (by omega)
   have hsw:=hS0.swap (i:=a) (j:=a) (by omega) (by omega)
   rw [hx1] at a1 a2
   rw [hx1] at hsw
   clear hx1
   have HSW:=hI hsw
   clear hsw
   go_wp2_with fail
   go_region
   all_goals go_wp2_with fail
   go_meet
   exact HSW.out
  ·skip
   obtain ⟨x1,hx1⟩:∃ x,(d)[a]! = x:=⟨_,rfl⟩
   obtain ⟨a1,z1,a2,z2⟩:=hS0.own (i:=a) (by omega)
   have hsw:=hS0.swap (i:=a) (j:=pv) (by omega) (by omega)
   rw [hx1] at a1 a2
   obtain ⟨x2,hx2⟩:∃ x,(d)[pv]! = x:=⟨_,rfl⟩
   obtain ⟨a3,z3,a4,z4⟩:=hS0.own (i:=pv) (by omega)
   rw [hx2] at a3 a4
   rw [hx1,hx2] at hsw
   clear hx1 hx2
   have HSW:=hI hsw
   clear hsw
   go_wp2_with fail
   go_region
   all_goals go_wp2_with fail
   go_meet
   exact HSW.out
 case rest =>
  clear hS0
  have HSD:Hid ((swp d a pv).size=N):=by show _=_;rw [size_swp];exact HN.out
  have HDEF:Hid (partitionEqual qae d a b pv=partEqLoop qae a (a + 1) (b - 1) (swp d a pv)):=rfl
  generalize swp d a pv=d1 at hcut HDEF HSD
  obtain ⟨b1,w3,w4⟩:∃ n,n + 1≤b∧b≤n + 1:=⟨b - 1,by omega,by omega⟩
  obtain ⟨a1,w5,w6⟩:∃ n,n≤a + 1∧a + 1≤n:=⟨_,Nat.le_refl _,Nat.le_refl _⟩
  have hb1:b - 1=b1:=by omega
  have ha1:a + 1=a1:=by omega
  rw [hb1,ha1] at HDEF
  clear hb1 ha1
  have s1:(b:Int) - 1=(b1:Int):=by omega
  have s2:(a:Int) + 1=(a1:Int):=by omega
  go_wp2
  go_loopw [11,12] (fun vi vj wr=>∃ (ii jj:Nat) (dk:Array (Int×Int)),vi=.int .i64 ii∧vj=.int .i64 jj∧a < ii∧ii≤jj + 1∧jj < b∧dk.size=N∧Srt w blk off dk wr∧Hid (partEqLoop qae a ii jj dk=partEqLoop qae a a1 b1 d1)) (fun vi vj _=>(intOf vj + 1 - intOf vi).toNat)
  case atStart=>exact ⟨a1,b1,d1,rfl,rfl,by omega,by omega,by omega,HSD.out,hcut,rfl⟩
  case round =>
   clear hcut
   obtain ⟨ii,jj,dk,rfl,rfl,c1,c2,c3,hsk,hS,HLOOP⟩:=hrel
   have HSK:=hI hsk
   have k5:dk.size≤N:=Nat.le_of_eq hsk
   have k6:N≤dk.size:=Nat.le_of_eq hsk.symm
   clear hsk
   go_wp2
   go_loopw [11] (fun vv wr=>∃ i:Nat,vv=.int .i64 i∧(a < i∧ii≤i)∧i≤jj + 1∧Srt w blk off dk wr∧Hid (scanUp (fun x=>!qae dk[a]! x) dk jj i=scanUp (fun x=>!qae dk[a]! x) dk jj ii)) (fun vv _=>jj + 1 - (intOf vv).toNat)
   case atStart=>exact ⟨ii,rfl,by omega,by omega,hS,rfl⟩
   case round =>
    clear hS
    obtain ⟨i,rfl,hv1,hv2,hS,HM⟩:=hrel
    go_upto_region 3 with fail
    go_cut [47] from 31 to 49 (fun s wx=>s=.bool (upE dk a jj i)∧Srt w blk off dk wx)
    case first =>
     by_cases hg:i≤jj
     ·have hgz:(i:Int)≤(jj:Int):=by omega
      have hvN:(i:Int) < (N:Int):=by omega
      obtain ⟨xv,hxv⟩:∃ x,dk[i]! = x:=⟨_,rfl⟩
      obtain ⟨xa,hxa⟩:∃ x,dk[a]! = x:=⟨_,rfl⟩
      have p0:=fun p=>(hS.cells (i:=i) (by omega) p).1
      have p1:=fun p=>(hS.cells (i:=i) (by omega) p).2
      have q0:=fun p=>(hS.cells (i:=a) (by omega) p).1
      have q1:=fun p=>(hS.cells (i:=a) (by omega) p).2
      simp only [hxv] at p0 p1
      simp only [hxa] at q0 q1
      have hcv1:=fun W=>qcl xa xv W
      have HLv1:=hI (qbu xa xv)
      generalize cmpA xa xv=v1 at hcv1 HLv1
      have HCv1:=hI hcv1
      clear hcv1
      have HT:Hid (upE dk a jj i=(!decide (v1 < 0))):=by show _=_;unfold upE;rw [hxv,hxa,HLv1.out];simp [hg]
      clear hxv hxa
      by_cases hv:v1 < 0
      ·skip
       go_wp2_with fail
       refine qad (by kernel_rfl) (by kernel_rfl) ?_
       repeat (first | go_big_quiet_step ((go_at_call 215;exact Calls.ext_of (HCv1.out _))) | quiet_step ((go_at_call 215;exact Calls.ext_of (HCv1.out _))))
       refine wpQuiet_nil ?_
       intro w' hw'
       obtain ⟨⟨W,hbW⟩,hw''⟩:=hw'
       have hw3:w'=W:=hw''
       subst hw3
       have hS2:=hS.below hbW
       clear hbW hw''
       clear p0 p1 q0 q1
       go_wp2_with fail
       go_meet
       exact ⟨congrArg Value.bool (HT.out.trans (by simp [hv])).symm,hS2⟩
      ·have hvd:decide (v1 < 0)=false:=by simp;omega
       go_wp2_with fail
       refine qad (by kernel_rfl) (by kernel_rfl) ?_
       repeat (first | go_big_quiet_step ((go_at_call 215;exact Calls.ext_of (HCv1.out _))) | quiet_step ((go_at_call 215;exact Calls.ext_of (HCv1.out _))))
       refine wpQuiet_nil ?_
       intro w' hw'
       obtain ⟨⟨W,hbW⟩,hw''⟩:=hw'
       have hw3:w'=W:=hw''
       subst hw3
       have hS2:=hS.below hbW
       clear hbW hw''
       clear p0 p1 q0 q1
       go_wp2_with fail
       go_meet
       exact ⟨congrArg Value.bool (HT.out.trans (by simp [hv])).symm,hS2⟩
     ·have hgd:decide (i≤jj)=false:=by simp;omega
      have hgz:¬ (i:Int)≤(jj:Int):=by omega
      have HT:Hid (upE dk a jj i=false):=by show _=_;unfold upE;simp [hg]
      go_wp2_with fail
      go_quiet (fail)
      go_wp2_with fail
      go_meet
      exact ⟨congrArg Value.bool HT.out.symm,hS.below (qbc (RowKit.Below.refl _ _) nq)⟩
    case rest =>
     clear hS
     obtain ⟨rfl,hS⟩:=hcut
     cases hT:upE dk a jj i
     ·have HTi:=hI hT
      have HEi:Hid (i=scanUp (fun x=>!qae dk[a]! x) dk jj ii):=by show _=_;rw [←HM.out];exact (qiv (p:=fun x=>!qae dk[a]! x) (d:=dk) hT).symm
      clear HM hT
      go_wp2
      go_loopw [12] (fun vv wr=>∃ j:Nat,vv=.int .i64 j∧j≤jj∧i≤j + 1∧Srt w blk off dk wr∧Hid (scanDown (fun x=>qae dk[a]! x) dk i j=scanDown (fun x=>qae dk[a]! x) dk i jj)) (fun vv _=>(intOf vv).toNat)
      case atStart=>exact ⟨jj,rfl,by omega,by omega,hS,rfl⟩
      case round =>
       clear hS
       obtain ⟨j,rfl,hv1,hv2,hS,HM⟩:=hrel
       go_upto_region 5 with fail
       go_cut [65] from 50 to 67 (fun s wx=>s=.bool (dnE dk a i j)∧Srt w blk off dk wx)
       case first =>
        by_cases hg:i≤j
        ·have hgz:(i:Int)≤(j:Int):=by omega
         have hvN:(j:Int) < (N:Int):=by omega
         obtain ⟨xv,hxv⟩:∃ x,dk[j]! = x:=⟨_,rfl⟩
         obtain ⟨xa,hxa⟩:∃ x,dk[a]! = x:=⟨_,rfl⟩
         have p0:=fun p=>(hS.cells (i:=j) (by omega) p).1
         have p1:=fun p=>(hS.cells (i:=j) (by omega) p).2
         have q0:=fun p=>(hS.cells (i:=a) (by omega) p).1
         have q1:=fun p=>(hS.cells (i:=a) (by omega) p).2
         simp only [hxv] at p0 p1
         simp only [hxa] at q0 q1
         have hcv1:=fun W=>qcl xa xv W
         have HLv1:=hI (qbu xa xv)
         generalize cmpA xa xv=v1 at hcv1 HLv1
         have HCv1:=hI hcv1
         clear hcv1
         have HT:Hid (dnE dk a i j=(decide (v1 < 0))):=by show _=_;unfold dnE;rw [hxv,hxa,HLv1.out];simp [hg]
         clear hxv hxa
         by_cases hv:v1 < 0
         ·skip
          go_wp2_with fail
          refine qad (by kernel_rfl) (by kernel_rfl) ?_
          repeat (first | go_big_quiet_step ((go_at_call 215;exact Calls.ext_of (HCv1.out _))) | quiet_step ((go_at_call 215;exact Calls.ext_of (HCv1.out _))))
          refine wpQuiet_nil ?_
          intro w' hw'
          obtain ⟨⟨W,hbW⟩,hw''⟩:=hw'
          have hw3:w'=W:=hw''
          subst hw3
          have hS2:=hS.below hbW
          clear hbW hw''
          clear p0 p1 q0 q1
          go_wp2_with fail
          go_meet
          exact ⟨congrArg Value.bool (HT.out.trans (by simp [hv])).symm,hS2⟩
         ·have hvd:decide (v1 < 0)=false:=by simp;omega
          go_wp2_with fail
          refine qad (by kernel_rfl) (by kernel_rfl) ?_
          repeat (first | go_big_quiet_step ((go_at_call 215;exact Calls.ext_of (HCv1.out _))) | quiet_step ((go_at_call 215;exact Calls.ext_of (HCv1.out _))))
          refine wpQuiet_nil ?_
          intro w' hw'
          obtain ⟨⟨W,hbW⟩,hw''⟩:=hw'
          have hw3:w'=W:=hw''
          subst hw3
          have hS2:=hS.below hbW
          clear hbW hw''
          clear p0 p1 q0 q1
          go_wp2_with fail
          go_meet
          exact ⟨congrArg Value.bool (HT.out.trans (by simp [hv])).symm,hS2⟩
        ·have hgd:decide (i≤j)=false:=by simp;omega
         have hgz:¬ (i:Int)≤(j:Int):=by omega
         have HT:Hid (dnE dk a i j=false):=by show _=_;unfold dnE;simp [hg]
         go_wp2_with fail
         go_quiet (fail)
         go_wp2_with fail
         go_meet
         exact ⟨congrArg Value.bool HT.out.symm,hS.below (qbc (RowKit.Below.refl _ _) nq)⟩
       case rest =>
        clear hS
        obtain ⟨rfl,hS⟩:=hcut
        cases hT:dnE dk a i j
        ·have HTj:=hI hT
         have HEj:Hid (j=scanDown (fun x=>qae dk[a]! x) dk i jj):=by show _=_;rw [←HM.out];exact (qgv (p:=fun x=>qae dk[a]! x) (d:=dk) hT).symm
         clear HM hT
         by_cases hij:j < i
         ·have hz:(j:Int) < (i:Int):=by omega
          have HRES:Hid (partitionEqual qae d a b pv=(i,dk)):=by
           show _=_
           rw [HDEF.out,←HLOOP.out,partEqLoop_eq,←HEi.out,←HEj.out,if_pos hij]
          go_wp2
          go_ret
          exact ⟨qan (by rw [HRES.out]),by rw [HRES.out];exact hS⟩
         ·have hz:¬ (j:Int) < (i:Int):=by omega
          have hzd:decide (j < i)=false:=by simp;omega
          have hlt:i < j:=up_dnE HTi.out HTj.out hv1 (by omega)
          have HL2:Hid (partEqLoop qae a (i + 1) (j - 1) (swp dk i j)=partEqLoop qae a a1 b1 d1):=by
           show _=_
           rw [←HLOOP.out,partEqLoop_eq qae a ii jj dk,←HEi.out,←HEj.out,if_neg hij]
          go_upto_region 8 with fail
          go_cut [] from 31 to 88 (fun wx=>Srt w blk off (swp (dk) i j) wx)
          case first =>
           obtain ⟨x1,hx1⟩:∃ x,(dk)[i]! = x:=⟨_,rfl⟩
           obtain ⟨a1,z1,a2,z2⟩:=hS.own (i:=i) (by omega)
           have hsw:=hS.swap (i:=i) (j:=j) (by omega) (by omega)
           rw [hx1] at a1 a2
           obtain ⟨x2,hx2⟩:∃ x,(dk)[j]! = x:=⟨_,rfl⟩
           obtain ⟨a3,z3,a4,z4⟩:=hS.own (i:=j) (by omega)
           rw [hx2] at a3 a4
           rw [hx1,hx2] at hsw
           clear hx1 hx2
           have HSW:=hI hsw
           clear hsw
           go_wp2_with fail
           go_region
           all_goals go_wp2_with fail
           go_meet
           exact HSW.out
          case rest =>
           obtain ⟨j0,w1,w2⟩:∃ n,n + 1≤j∧j≤n + 1:=⟨j - 1,by omega,by omega⟩
           have s9:(j:Int) - 1=(j0:Int):=by omega
           have HJ0:Hid (j - 1=j0):=by show _=_;omega
           rw [HJ0.out] at HL2
           clear hS
           go_wp2
           exact ⟨⟨i + 1,j0,swp dk i j,by go_num,rfl,by omega,by omega,by omega,by rw [size_swp];exact HSK.out,hcut,HL2⟩,by simp [intOf];omega⟩
        ·have hle:i≤j:=by unfold dnE at hT;simp at hT;exact hT.1
         obtain ⟨j0,w1,w2⟩:∃ n,n + 1≤j∧j≤n + 1:=⟨j - 1,by omega,by omega⟩
         have s9:(j:Int) - 1=(j0:Int):=by omega
         have HM2:Hid (scanDown (fun x=>qae dk[a]! x) dk i j0=scanDown (fun x=>qae dk[a]! x) dk i jj):=by show _=_;rw [←HM.out];exact (qiw (p:=fun x=>qae dk[a]! x) (d:=dk) (by omega) hT).symm
         have HT2:=hI hT
         go_wp2
         exact ⟨⟨j0,rfl,by omega,by omega,hS,HM2⟩,by simp [intOf];omega⟩
     ·have hle:i≤jj:=by unfold upE at hT;simp at hT;exact hT.1
      have HM2:Hid (scanUp (fun x=>!qae dk[a]! x) dk jj (i + 1)=scanUp (fun x=>!qae dk[a]! x) dk jj ii):=by show _=_;rw [←HM.out];exact (qmx (p:=fun x=>!qae dk[a]! x) (d:=dk) hT).symm
      have HT2:=hI hT
      go_wp2
      exact ⟨⟨i + 1,by go_num,by omega,by omega,hS,HM2⟩,by simp [intOf];omega⟩
end Go.Proofs.YtlkmagmdhopcjaaGreat
