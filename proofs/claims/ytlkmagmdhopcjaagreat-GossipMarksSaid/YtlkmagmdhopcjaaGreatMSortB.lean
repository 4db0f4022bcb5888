/- Texts that the law leans on. -/
import Derived.Test.YtlkmagmdhopcjaaGreatMRangesE
namespace Go.Proofs.YtlkmagmdhopcjaaGreat
open Go.RowKit Go.Sort Go.Lib
section
variable {α:Type} [Inhabited α] {lt:α→α→Bool} {hi first root:Nat} {d:Array α}
theorem sift_stop (h:hi≤2 * root + 1):siftDown lt hi first root d=d:=by rw [siftDown];simp [h]
theorem qtz (h2:2 * root + 2 < hi) (hl:lt d[first + (2 * root + 1)]! d[first + (2 * root + 2)]! = true) (hr:lt d[first + root]! d[first + (2 * root + 2)]! = false):siftDown lt hi first root d=d:=by
 rw [siftDown,dif_neg (by omega),if_pos (by rw [Nat.add_assoc first,hl];simp;omega),if_pos (by rw [hr];rfl)]
theorem sift_R_go (h2:2 * root + 2 < hi) (hl:lt d[first + (2 * root + 1)]! d[first + (2 * root + 2)]! = true) (hr:lt d[first + root]! d[first + (2 * root + 2)]! = true):siftDown lt hi first root d=siftDown lt hi first (2 * root + 2) (swp d (first + root) (first + (2 * root + 2))):=by
 rw [siftDown,dif_neg (by omega),if_pos (by rw [Nat.add_assoc first,hl];simp;omega),if_neg (by rw [hr];simp),dif_pos h2]
theorem qmv (h1:2 * root + 1 < hi) (h2:hi≤2 * root + 2∨lt d[first + (2 * root + 1)]! d[first + (2 * root + 2)]! = false) (hr:lt d[first + root]! d[first + (2 * root + 1)]! = false):siftDown lt hi first root d=d:=by
 rw [siftDown,dif_neg (by omega),if_neg ?_,if_pos (by rw [hr];rfl)]
 rcases h2 with h2 | h2
 ·simp;omega
 ·rw [Nat.add_assoc first,h2];simp
theorem qrz (h1:2 * root + 1 < hi) (h2:hi≤2 * root + 2∨lt d[first + (2 * root + 1)]! d[first + (2 * root + 2)]! = false) (hr:lt d[first + root]! d[first + (2 * root + 1)]! = true):siftDown lt hi first root d=siftDown lt hi first (2 * root + 1) (swp d (first + root) (first + (2 * root + 1))):=by
 rw [siftDown,dif_neg (by omega),if_neg ?_,if_neg (by rw [hr];simp)]
 rcases h2 with h2 | h2
 ·simp;omega
 ·rw [Nat.add_assoc first,h2];simp
end
set_option maxRecDepth 100000 in
set_option maxHeartbeats 8000000 in
theorem sift_any (blk off cap lo hi first:Nat) (d:Array (Int×Int)) (w:World) (hH:HoldsK qaf 2 w blk off d) (hblk:blk < w.heap.size) (hlo:lo≤d.size) (hb:first + hi≤d.size) (hsz:d.size≤1000000) :
 Calls Tryz.prog 300 #[.slice (some ⟨blk,off,none⟩) d.size cap,.int .i64 lo,.int .i64 hi,.int .i64 first,.func (.func 215) #[.agg #[]] #[]] w fun e w'=>e=.returned (.tuple #[])∧Srt w blk off (siftDown qae hi first lo d) w':=by
 have HS0:=hI (Srt.refl hH hblk)
 clear hH
 go_enter Tryz.func300,Tryz.ntmps300
 go_wp2
 go_loopw [10] (fun vr wr=>∃ (root:Nat) (dk:Array (Int×Int)),vr=.int .i64 root∧root≤d.size∧dk.size=d.size∧Srt w blk off dk wr∧Hid (siftDown qae hi first root dk=siftDown qae hi first lo d)) (fun vr _=>hi - (intOf vr).toNat)
 case atStart=>exact ⟨lo,d,rfl,hlo,rfl,HS0.out,rfl⟩
 case round =>
  obtain ⟨root,dk,rfl,hrd,hsk,hS,HM⟩:=hrel
  have hk1:dk.size≤d.size:=Nat.le_of_eq hsk
  have hk2:d.size≤dk.size:=Nat.le_of_eq hsk.symm
  have HSK:=hI hsk
  clear hsk
  by_cases h1:hi≤2 * root + 1
  ·have h1z:(hi:Int)≤2 * (root:Int) + 1:=by omega
   go_wp2
   go_end0
   exact ⟨rfl,by rw [←HM.out,sift_stop h1];exact hS⟩
  ·obtain ⟨ch,c1,c2⟩:∃ ch,ch≤2 * root + 1∧2 * root + 1≤ch:=⟨_,Nat.le_refl _,Nat.le_refl _⟩
   obtain ⟨fr,r1,r2⟩:∃ fr,fr≤first + root∧first + root≤fr:=⟨_,Nat.le_refl _,Nat.le_refl _⟩
   obtain ⟨fc,f1,f2⟩:∃ fc,fc≤first + ch∧first + ch≤fc:=⟨_,Nat.le_refl _,Nat.le_refl _⟩
   have hch:Hid (ch=2 * root + 1):=by show _=_;omega
   have hfr:Hid (fr=first + root):=by show _=_;omega
   have hfc:Hid (fc=first + (2 * root + 1)):=by show _=_;omega
   have e1:2 * (root:Int) + 1=(ch:Int):=by omega
   have e2:(first:Int) + (ch:Int)=(fc:Int):=by omega
   have e2w:IntKind.i64.wrap ((first:Int) + (ch:Int))=(fc:Int):=by rw [IntKind.wrap_i64];omega
   have e3:(first:Int) + (root:Int)=(fr:Int):=by omega
   have e3w:IntKind.i64.wrap ((first:Int) + (root:Int))=(fr:Int):=by rw [IntKind.wrap_i64];omega
   have hchi:¬ (hi:Int)≤(ch:Int):=by omega
   have hchd:decide ((hi:Int)≤(ch:Int))=false:=by simp;omega
   have i1:(fr:Int) < (d.size:Int):=by omega
   have i2:(fc:Int) < (d.size:Int):=by omega
   obtain ⟨xr,hxr⟩:∃ x,dk[fr]! = x:=⟨_,rfl⟩
   obtain ⟨xc,hxc⟩:∃ x,dk[fc]! = x:=⟨_,rfl⟩
   have HXR:=hI hxr
   have HXC:=hI hxc
   clear hxr hxc
   obtain ⟨ch1,d1,d2⟩:∃ c,c≤ch + 1∧ch + 1≤c:=⟨_,Nat.le_refl _,Nat.le_refl _⟩
   obtain ⟨fc1,g1,g2⟩:∃ c,c≤fc + 1∧fc + 1≤c:=⟨_,Nat.le_refl _,Nat.le_refl _⟩
   have hch1:Hid (ch1=2 * root + 2):=by show _=_;omega
   have hfc1:Hid (fc1=first + (2 * root + 2)):=by show _=_;omega
   have e4:(ch:Int) + 1=(ch1:Int):=by omega
   have e4w:IntKind.i64.wrap ((ch:Int) + 1)=(ch1:Int):=by rw [IntKind.wrap_i64];omega
   have e5:(fc:Int) + 1=(fc1:Int):=by omega
   have e5w:IntKind.i64.wrap ((fc:Int) + 1)=(fc1:Int):=by rw [IntKind.wrap_i64];omega
   have e6:(first:Int) + (ch1:Int)=(fc1:Int):=by omega
   have e6w:IntKind.i64.wrap ((first:Int) + (ch1:Int))=(fc1:Int):=by rw [IntKind.wrap_i64];omega
   have e7w:IntKind.i64.wrap (ch1:Int)=(ch1:Int):=by rw [IntKind.wrap_i64];omega
   have e8w:IntKind.i64.wrap (fc1:Int)=(fc1:Int):=by rw [IntKind.wrap_i64];omega
   have e9w:IntKind.i64.wrap (fc:Int)=(fc:Int):=by rw [IntKind.wrap_i64];omega
   by_cases h2:ch + 1 < hi
   ·have h2z:(ch1:Int) < (hi:Int):=by omega
    obtain ⟨x2,hx2⟩:∃ x,dk[fc1]! = x:=⟨_,rfl⟩
    have HX2:=hI hx2
    clear hx2
    have i3:(fc1:Int) < (d.size:Int):=by omega
    have p0:=fun p=>(hS.cells (i:=fc) (by omega) p).1
    have p1:=fun p=>(hS.cells (i:=fc) (by omega) p).2
    simp only [HXC.out] at p0 p1
    have q0:=fun p=>(hS.cells (i:=fc1) (by omega) p).1
    have q1:=fun p=>(hS.cells (i:=fc1) (by omega) p).2
    simp only [HX2.out] at q0 q1
    have hcv1:=fun W=>qcl xc x2 W
    have HLv1:=hI (qbu xc x2)
    generalize cmpA xc x2=v1 at hcv1 HLv1
    have HCv1:=hI hcv1
    clear hcv1
    by_cases hv1:v1 < 0
    ·go_wp2_with fail
     refine qad (by kernel_rfl) (by kernel_rfl) ?_
     repeat (first | go_big_quiet_step ((go_at_call 215;exact Calls.ext_of (HCv1.out _))) | quiet_step ((go_at_call 215;exact Calls.ext_of (HCv1.out _))))
     refine wpQuiet_nil ?_
     intro w' hw'
     obtain ⟨⟨W,hbW⟩,hw''⟩:=hw'
     have hw3:w'=W:=hw''
     subst hw3
     have hS2:=hS.below hbW
     clear hbW hw''
     clear p0 p1 q0 q1
     have p0:=fun p=>(hS2.cells (i:=fr) (by omega) p).1
     have p1:=fun p=>(hS2.cells (i:=fr) (by omega) p).2
     simp only [HXR.out] at p0 p1
     have q0:=fun p=>(hS2.cells (i:=fc1) (by omega) p).1
     have q1:=fun p=>(hS2.cells (i:=fc1) (by omega) p).2
     simp only [HX2.out] at q0 q1
     have hcv2:=fun W=>qcl xr x2 W
     have HLv2:=hI (qbu xr x2)
     generalize cmpA xr x2=v2 at hcv2 HLv2
     have HCv2:=hI hcv2
     clear hcv2
     by_cases hv2:v2 < 0
     ·have HM2:Hid (siftDown qae hi first ch1 (swp dk fr fc1)=siftDown qae hi first lo d):=by
       show _=_
       rw [←HM.out,hch1.out,hfr.out,hfc1.out];exact (sift_R_go (by omega) (by rw [←hfc.out,←hfc1.out,HXC.out,HX2.out,HLv1.out];simp;omega) (by rw [←hfr.out,←hfc1.out,HXR.out,HX2.out,HLv2.out];simp;omega)).symm
      go_wp2_with fail
      refine qad (by kernel_rfl) (by kernel_rfl) ?_
      repeat (first | go_big_quiet_step ((go_at_call 215;exact Calls.ext_of (HCv2.out _))) | quiet_step ((go_at_call 215;exact Calls.ext_of (HCv2.out _))))
      refine wpQuiet_nil ?_
      intro w' hw'
      obtain ⟨⟨W,hbW⟩,hw''⟩:=hw'
      have hw3:w'=W:=hw''
      subst hw3
      have hS3:=hS2.below hbW
      clear hbW hw''
      clear p0 p1 q0 q1
      obtain ⟨a1,z1,a2,z2⟩:=hS3.own (i:=fr) (by omega)
      obtain ⟨a3,z3,a4,z4⟩:=hS3.own (i:=fc1) (by omega)
      rw [HXR.out] at a1 a2
      rw [HX2.out] at a3 a4
      go_wp2_with fail
      go_region
      all_goals go_wp2
      have hsw:=hS3.swap (i:=fr) (j:=fc1) (by omega) (by omega)
      rw [HXR.out,HX2.out] at hsw
      exact ⟨⟨ch1,swp dk fr fc1,rfl,by omega,by rw [size_swp];exact HSK.out,hsw,HM2⟩,by simp [intOf];omega⟩
     ·have hv2d:decide (v2 < 0)=false:=by simp;omega
      have HM2:siftDown qae hi first root dk=dk:=qtz (by omega) (by rw [←hfc.out,←hfc1.out,HXC.out,HX2.out,HLv1.out];simp;omega) (by rw [←hfr.out,←hfc1.out,HXR.out,HX2.out,HLv2.out];simp;omega)
      have HM3:=hI HM2
      clear HM2
      go_wp2_with fail
      refine qad (by kernel_rfl) (by kernel_rfl) ?_
      repeat (first | go_big_quiet_step ((go_at_call 215;exact Calls.ext_of (HCv2.out _))) | quiet_step ((go_at_call 215;exact Calls.ext_of (HCv2.out _))))
      refine wpQuiet_nil ?_
      intro w' hw'
      obtain ⟨⟨W,hbW⟩,hw''⟩:=hw'
      have hw3:w'=W:=hw''
      subst hw3
      have hS3:=hS2.below hbW
      clear hbW hw''
      go_wp2
      exact bodyPost_ret (v:=.tuple #[]) (qck rfl _ _ _) rfl ⟨rfl,by rw [←HM.out,HM3.out];exact hS3⟩
    ·have hv1d:decide (v1 < 0)=false:=by simp;omega
     go_wp2_with fail
     refine qad (by kernel_rfl) (by kernel_rfl) ?_
     repeat (first | go_big_quiet_step ((go_at_call 215;exact Calls.ext_of (HCv1.out _))) | quiet_step ((go_at_call 215;exact Calls.ext_of (HCv1.out _))))
     refine wpQuiet_nil ?_
     intro w' hw'
     obtain ⟨⟨W,hbW⟩,hw''⟩:=hw'
     have hw3:w'=W:=hw''
     subst hw3
     have hS2:=hS.below hbW
     clear hbW hw''
     clear p0 p1 q0 q1
     have p0:=fun p=>(hS2.cells (i:=fr) (by omega) p).1
     have p1:=fun p=>(hS2.cells (i:=fr) (by omega) p).2
     simp only [HXR.out] at p0 p1
     have q0:=fun p=>(hS2.cells (i:=fc) (by omega) p).1
     have q1:=fun p=>(hS2.cells (i:=fc) (by omega) p).2
     simp only [HXC.out] at q0 q1
     have hcv2:=fun W=>qcl xr xc W
     have HLv2:=hI (qbu xr xc)
     generalize cmpA xr xc=v2 at hcv2 HLv2
     have HCv2:=hI hcv2
     clear hcv2
     by_cases hv2:v2 < 0
     ·have HM2:Hid (siftDown qae hi first ch (swp dk fr fc)=siftDown qae hi first lo d):=by
       show _=_
       rw [←HM.out,hch.out,hfr.out,hfc.out];exact (qrz (by omega) (Or.inr (by rw [←hfc.out,←hfc1.out,HXC.out,HX2.out,HLv1.out];simp;omega)) (by rw [←hfr.out,←hfc.out,HXR.out,HXC.out,HLv2.out];simp;omega)).symm
      go_wp2_with fail
      refine qad (by kernel_rfl) (by kernel_rfl) ?_
      repeat (first | go_big_quiet_step ((go_at_call 215;exact Calls.ext_of (HCv2.out _))) | quiet_step ((go_at_call 215;exact Calls.ext_of (HCv2.out _))))
      refine wpQuiet_nil ?_
      intro w' hw'
      obtain ⟨⟨W,hbW⟩,hw''⟩:=hw'
      have hw3:w'=W:=hw''
      subst hw3
      have hS3:=hS2.below hbW
      clear hbW hw''
      clear p0 p1 q0 q1
      obtain ⟨a1,z1,a2,z2⟩:=hS3.own (i:=fr) (by omega)
      obtain ⟨a3,z3,a4,z4⟩:=hS3.own (i:=fc) (by omega)
      rw [HXR.out] at a1 a2
      rw [HXC.out] at a3 a4
      go_wp2_with fail
      go_region
      all_goals go_wp2
      have hsw:=hS3.swap (i:=fr) (j:=fc) (by omega) (by omega)
      rw [HXR.out,HXC.out] at hsw
      exact ⟨⟨ch,swp dk fr fc,rfl,by omega,by rw [size_swp];exact HSK.out,hsw,HM2⟩,by simp [intOf];omega⟩
     ·have hv2d:decide (v2 < 0)=false:=by simp;omega
      have HM2:siftDown qae hi first root dk=dk:=qmv (by omega) (Or.inr (by rw [←hfc.out,←hfc1.out,HXC.out,HX2.out,HLv1.out];simp;omega)) (by rw [←hfr.out,←hfc.out,HXR.out,HXC.out,HLv2.out];simp;omega)
      have HM3:=hI HM2
      clear HM2
      go_wp2_with fail
      refine qad (by kernel_rfl) (by kernel_rfl) ?_
      repeat (first | go_big_quiet_step ((go_at_call 215;exact Calls.ext_of (HCv2.out _))) | quiet_step ((go_at_call 215;exact Calls.ext_of (HCv2.out _))))
      refine wpQuiet_nil ?_
      intro w' hw'
      obtain ⟨⟨W,hbW⟩,hw''⟩:=hw'
      have hw3:w'=W:=hw''
      subst hw3
      have hS3:=hS2.below hbW
      clear hbW hw''
      go_wp2
      exact bodyPost_ret (v:=.tuple #[]) (qck rfl _ _ _) rfl ⟨rfl,by rw [←HM.out,HM3.out];exact hS3⟩
   ·have h2d:decide (ch1 < hi)=false:=by simp;omega
    go_wp2_with fail
    go_quiet (fail)
    have hS2:=hS.below (qbc (RowKit.Below.refl _ _) nq)
    have p0:=fun p=>(hS2.cells (i:=fr) (by omega) p).1
    have p1:=fun p=>(hS2.cells (i:=fr) (by omega) p).2
    simp only [HXR.out] at p0 p1
    have q0:=fun p=>(hS2.cells (i:=fc) (by omega) p).1
    have q1:=fun p=>(hS2.cells (i:=fc) (by omega) p).2
    simp only [HXC.out] at q0 q1
    have hcv2:=fun W=>qcl xr xc W
    have HLv2:=hI (qbu xr xc)
    generalize cmpA xr xc=v2 at hcv2 HLv2
    have HCv2:=hI hcv2
    clear hcv2
    by_cases hv2:v2 < 0
    ·have HM2:Hid (siftDown qae hi first ch (swp dk fr fc)=siftDown qae hi first lo d):=by
      show _=_
      rw [←HM.out,hch.out,hfr.out,hfc.out];exact (qrz (by omega) (Or.inl (by omega)) (by rw [←hfr.out,←hfc.out,HXR.out,HXC.out,HLv2.out];simp;omega)).symm
     go_wp2_with fail
     refine qad (by kernel_rfl) (by kernel_rfl) ?_
     repeat (first | go_big_quiet_step ((go_at_call 215;exact Calls.ext_of (HCv2.out _))) | quiet_step ((go_at_call 215;exact Calls.ext_of (HCv2.out _))))
     refine wpQuiet_nil ?_
     intro w' hw'
     obtain ⟨⟨W,hbW⟩,hw''⟩:=hw'
     have hw3:w'=W:=hw''
     subst hw3
     have hS3:=hS2.below hbW
     clear hbW hw''
     clear p0 p1 q0 q1
     obtain ⟨a1,z1,a2,z2⟩:=hS3.own (i:=fr) (by omega)
     obtain ⟨a3,z3,a4,z4⟩:=hS3.own (i:=fc) (by omega)
     rw [HXR.out] at a1 a2
     rw [HXC.out] at a3 a4
     go_wp2_with fail
     go_region
     all_goals go_wp2
     have hsw:=hS3.swap (i:=fr) (j:=fc) (by omega) (by omega)
     rw [HXR.out,HXC.out] at hsw
     exact ⟨⟨ch,swp dk fr fc,rfl,by omega,by rw [size_swp];exact HSK.out,hsw,HM2⟩,by simp [intOf];omega⟩
    ·have hv2d:decide (v2 < 0)=false:=by simp;omega
     have HM2:siftDown qae hi first root dk=dk:=qmv (by omega) (Or.inl (by omega)) (by rw [←hfr.out,←hfc.out,HXR.out,HXC.out,HLv2.out];simp;omega)
     have HM3:=hI HM2
     clear HM2
     go_wp2_with fail
     refine qad (by kernel_rfl) (by kernel_rfl) ?_
     repeat (first | go_big_quiet_step ((go_at_call 215;exact Calls.ext_of (HCv2.out _))) | quiet_step ((go_at_call 215;exact Calls.ext_of (HCv2.out _))))
     refine wpQuiet_nil ?_
     intro w' hw'
     obtain ⟨⟨W,hbW⟩,hw''⟩:=hw'
     have hw3:w'=W:=hw''
     subst hw3
     have hS3:=hS2.below hbW
     clear hbW hw''
     go_wp2
     exact bodyPost_ret (v:=.tuple #[]) (qck rfl _ _ _) rfl ⟨rfl,by rw [←HM.out,HM3.out];exact hS3⟩
end Go.Proofs.YtlkmagmdhopcjaaGreat
namespace Go.Proofs.YtlkmagmdhopcjaaGreat
open Go.RowKit Go.Sort Go.Lib
theorem sift_N (blk off cap lo hi first N:Nat) (d:Array (Int×Int)) (w:World) (hH:HoldsK qaf 2 w blk off d) (hblk:blk < w.heap.size) (hN:d.size=N) (hlo:lo≤N) (hb:first + hi≤N) (hsz:N≤1000000) :
 Calls Tryz.prog 300 #[.slice (some ⟨blk,off,none⟩) N cap,.int .i64 lo,.int .i64 hi,.int .i64 first,.func (.func 215) #[.agg #[]] #[]] w fun e w'=>e=.returned (.tuple #[])∧Srt w blk off (siftDown qae hi first lo d) w':=by
 subst hN
 exact sift_any blk off cap lo hi first d w hH hblk hlo hb hsz
theorem qmw (lt:Int×Int→Int×Int→Bool) (hi first root:Nat) (d:Array (Int×Int)):(siftDown lt hi first root d).size=d.size:=by
 fun_induction siftDown lt hi first root d <;> simp_all [swp]
set_option maxRecDepth 100000 in
set_option maxHeartbeats 8000000 in
theorem heap_any (blk off cap a b N:Nat) (d:Array (Int×Int)) (w:World) (hH:HoldsK qaf 2 w blk off d) (hblk:blk < w.heap.size) (hN:d.size=N) (hab:a < b) (hb:b≤N) (hsz:N≤1000000) :
 Calls Tryz.prog 275 #[.slice (some ⟨blk,off,none⟩) N cap,.int .i64 a,.int .i64 b,.func (.func 215) #[.agg #[]] #[]] w fun e w'=>e=.returned (.tuple #[])∧Srt w blk off (heapSort qae d a b) w':=by
 have HS0:=hI (Srt.refl hH hblk)
 have HN:=hI hN
 clear hH hN
 obtain ⟨n,n1,n2⟩:∃ n,n≤b - a∧b - a≤n:=⟨_,Nat.le_refl _,Nat.le_refl _⟩
 obtain ⟨m,m1,m2⟩:∃ m,m≤(n - 1) / 2∧(n - 1) / 2≤m:=⟨_,Nat.le_refl _,Nat.le_refl _⟩
 have HD:Hid (heapSort qae d a b=heapPop qae a n (heapBuild qae n a (m + 1) d)):=by
  show _=_
  have e1:n=b - a:=by omega
  have e2:m=(b - a - 1) / 2:=by omega
  rw [e1,e2];rfl
 have s1:(b:Int) - (a:Int)=(n:Int):=by omega
 have S2:Hid (((n:Int) - 1) / 2=(m:Int)):=by show _=_;omega
 go_enter Tryz.func275,Tryz.ntmps275
 go_wp2
 go_loopw [11] (fun vi wr=>∃ (k:Nat) (dk:Array (Int×Int)),vi=.int .i64 ((k:Int) - 1)∧k≤m + 1∧dk.size=N∧Srt w blk off dk wr∧Hid (heapBuild qae n a k dk=heapBuild qae n a (m + 1) d)) (fun vi _=>(intOf vi + 1).toNat)
 case atStart=>exact ⟨m + 1,d,by congr 1;have:=S2.out;omega,Nat.le_refl _,HN.out,HS0.out,rfl⟩
 case round =>
  obtain ⟨k,dk,rfl,hk,hsk,hS,HM⟩:=hrel
  have HSK:=hI hsk
  clear hsk
  cases k with
  | zero =>
    have e0:(((0:Nat):Int) - 1) = -1:=rfl
    rw [e0]
    clear e0
    have HM':Hid (dk=heapBuild qae n a (m + 1) d):=HM.out
    obtain ⟨n0,j1,j2⟩:∃ n0,n0 + 1≤n∧n≤n0 + 1:=⟨n - 1,by omega,by omega⟩
    go_wp2
    go_loopw [12] (fun vi wr=>∃ (k:Nat) (dj:Array (Int×Int)),vi=.int .i64 ((k:Int) - 1)∧k≤n∧dj.size=N∧Srt w blk off dj wr∧Hid (heapPop qae a k dj=heapSort qae d a b)) (fun vi _=>(intOf vi + 1).toNat)
    case atStart=>exact ⟨n,dk,rfl,Nat.le_refl _,HSK.out,hS,by show _=_;rw [HD.out,HM'.out]⟩
    case round =>
     clear hS HM HSK hk
     obtain ⟨k,dk,rfl,hk,hsk,hS,HM⟩:=hrel
     have HSK:=hI hsk
     have k1:dk.size≤N:=Nat.le_of_eq hsk
     have k2:N≤dk.size:=Nat.le_of_eq hsk.symm
     clear hsk
     cases k with
     | zero =>
       have e0:(((0:Nat):Int) - 1) = -1:=rfl
       rw [e0]
       clear e0
       go_wp2
       go_end0
       exact ⟨rfl,by rw [←HM.out];exact hS⟩
     | succ k =>
       have ej:(((k + 1:Nat):Int) - 1)=(k:Int):=by omega
       rw [ej]
       clear ej
       rcases Nat.eq_zero_or_pos k with hk0 | hk0
       ·subst hk0
        have e3w:IntKind.i64.wrap (a:Int)=(a:Int):=by rw [IntKind.wrap_i64];omega
        have i1:(a:Int) < (N:Int):=by omega
        obtain ⟨x1,hx1⟩:∃ x,dk[a]! = x:=⟨_,rfl⟩
        obtain ⟨a1,z1,a2,z2⟩:=hS.own (i:=a) (by omega)
        have hsw:=hS.swap (i:=a) (j:=a) (by omega) (by omega)
        rw [hx1] at a1 a2
        rw [hx1] at hsw
        have HSW:=hI hsw
        clear hx1 hsw
        have HM2:Hid (heapPop qae a 0 (siftDown qae 0 a 0 (swp dk a a))=heapSort qae d a b):=by show _=_;rw [←HM.out];rfl
        go_wp2_with fail
        go_region
        all_goals go_wp2_with fail
        have hS2:Srt w blk off (swp dk a a) _:=HSW.out
        have HX:=hI (sift_N blk off cap 0 0 a N (swp dk a a) _ hS2.holds hS2.lt1 (by rw [size_swp];exact HSK.out) (by omega) (by omega) hsz)
        refine HX.out.mono ?_
        rintro e w5 ⟨rfl,hS5⟩
        have hS6:=hS2.trans hS5
        clear hS5 hS2 HX HSW a1 a2 z1 z2
        go_wp2
        exact ⟨⟨0,_,rfl,by omega,by rw [qmw,size_swp];exact HSK.out,hS6,HM2⟩,by simp [intOf]⟩
       ·skip
        obtain ⟨ak,q1,q2⟩:∃ c,c≤a + k∧a + k≤c:=⟨_,Nat.le_refl _,Nat.le_refl _⟩
        have hak:Hid (ak=a + k):=by show _=_;omega
        have e3:(a:Int) + (k:Int)=(ak:Int):=by omega
        have e3w:IntKind.i64.wrap ((a:Int) + (k:Int))=(ak:Int):=by rw [IntKind.wrap_i64];omega
        have e4w:IntKind.i64.wrap (ak:Int)=(ak:Int):=by rw [IntKind.wrap_i64];omega
        have i1:(a:Int) < (N:Int):=by omega
        have i2:(ak:Int) < (N:Int):=by omega
        obtain ⟨x1,hx1⟩:∃ x,dk[a]! = x:=⟨_,rfl⟩
        obtain ⟨x2,hx2⟩:∃ x,dk[ak]! = x:=⟨_,rfl⟩
        obtain ⟨a1,z1,a2,z2⟩:=hS.own (i:=a) (by omega)
        obtain ⟨a3,z3,a4,z4⟩:=hS.own (i:=ak) (by omega)
        have hsw:=hS.swap (i:=a) (j:=ak) (by omega) (by omega)
        rw [hx1] at a1 a2
        rw [hx2] at a3 a4
        rw [hx1,hx2] at hsw
        have HSW:=hI hsw
        clear hx1 hx2 hsw
        have k0:(0:Int)≤(k:Int):=by omega
        have HM2:Hid (heapPop qae a k (siftDown qae k a 0 (swp dk a ak))=heapSort qae d a b):=by show _=_;rw [←HM.out,hak.out];rfl
        go_wp2_with fail
        go_region
        all_goals go_wp2_with fail
        have hS2:Srt w blk off (swp dk a ak) _:=HSW.out
        have HX:=hI (sift_N blk off cap 0 k a N (swp dk a ak) _ hS2.holds hS2.lt1 (by rw [size_swp];exact HSK.out) (by omega) (by omega) hsz)
        refine HX.out.mono ?_
        rintro e w5 ⟨rfl,hS5⟩
        have hS6:=hS2.trans hS5
        clear hS5 hS2 HX HSW a1 a2 a3 a4 z1 z2 z3 z4
        go_wp2
        exact ⟨⟨k,_,rfl,by omega,by rw [qmw,size_swp];exact HSK.out,hS6,HM2⟩,by simp [intOf]⟩
  | succ k =>
    have ej:(((k + 1:Nat):Int) - 1)=(k:Int):=by omega
    rw [ej]
    clear ej
    have k0:(0:Int)≤(k:Int):=by omega
    have HX:=hI (sift_N blk off cap k n a N dk _ hS.holds hS.lt1 HSK.out (by omega) (by omega) hsz)
    go_wp2_with fail
    refine HX.out.mono ?_
    rintro e w5 ⟨rfl,hS5⟩
    have hS6:=hS.trans hS5
    clear hS5 HX
    have HM2:Hid (heapBuild qae n a k (siftDown qae n a k dk)=heapBuild qae n a (m + 1) d):=HM.out
    go_wp2
    exact ⟨⟨k,_,rfl,by omega,by rw [qmw];exact HSK.out,hS6,HM2⟩,by simp [intOf]⟩
set_option maxRecDepth 100000 in
set_option maxHeartbeats 8000000 in
theorem rev_any (blk off cap a b N:Nat) (d:Array (Int×Int)) (w:World) (hH:HoldsK qaf 2 w blk off d) (hblk:blk < w.heap.size) (hN:d.size=N) (hab:a < b) (hb:b≤N) (hsz:N≤1000000) :
 Calls Tryz.prog 278 #[.slice (some ⟨blk,off,none⟩) N cap,.int .i64 a,.int .i64 b,.func (.func 215) #[.agg #[]] #[]] w fun e w'=>e=.returned (.tuple #[])∧∃ d',PermIn a b d d'∧Srt w blk off d' w':=by
 have HS0:=hI (Srt.refl hH hblk)
 have HN:=hI hN
 clear hH hN
 obtain ⟨b0,n1,n2⟩:∃ n,n + 1≤b∧b≤n + 1:=⟨b - 1,by omega,by omega⟩
 have s1:(b:Int) - 1=(b0:Int):=by omega
 go_enter Tryz.func278,Tryz.ntmps278
 go_wp2
 go_loopw [8,9] (fun vi vj wr=>∃ (i j:Nat) (dk:Array (Int×Int)),vi=.int .i64 i∧vj=.int .i64 j∧a≤i∧i≤b∧j < b∧PermIn a b d dk∧Srt w blk off dk wr) (fun _ vj _=>(intOf vj).toNat)
 case atStart=>exact ⟨a,b0,d,rfl,rfl,Nat.le_refl _,by omega,by omega,permIn_refl _ _ _,HS0.out⟩
 case round =>
  obtain ⟨i,j,dk,rfl,rfl,h1,h2,h3,hp,hS⟩:=hrel
  have hsk:dk.size=N:=hp.1.trans HN.out
  have k1:dk.size≤N:=Nat.le_of_eq hsk
  have k2:N≤dk.size:=Nat.le_of_eq hsk.symm
  have HP:=hI hp
  clear hp hsk
  by_cases hij:i < j
  ·have hz:(i:Int) < (j:Int):=by omega
   have i1:(i:Int) < (N:Int):=by omega
   have i2:(j:Int) < (N:Int):=by omega
   obtain ⟨x1,hx1⟩:∃ x,dk[i]! = x:=⟨_,rfl⟩
   obtain ⟨x2,hx2⟩:∃ x,dk[j]! = x:=⟨_,rfl⟩
   obtain ⟨a1,z1,a2,z2⟩:=hS.own (i:=i) (by omega)
   obtain ⟨a3,z3,a4,z4⟩:=hS.own (i:=j) (by omega)
   have hsw:=hS.swap (i:=i) (j:=j) (by omega) (by omega)
   rw [hx1] at a1 a2
   rw [hx2] at a3 a4
   rw [hx1,hx2] at hsw
   have HSW:=hI hsw
   have HP2:=hI (permIn_trans _ _ _ _ _ HP.out (swp_permIn dk a b i j h1 (by omega) (by omega) h3 (by omega)))
   clear hx1 hx2 hsw
   obtain ⟨j0,q1,q2⟩:∃ n,n + 1≤j∧j≤n + 1:=⟨j - 1,by omega,by omega⟩
   have s2:(j:Int) - 1=(j0:Int):=by omega
   go_wp2_with fail
   go_region
   all_goals go_wp2
   exact ⟨⟨i + 1,j0,swp dk i j,by go_num,rfl,by omega,by omega,by omega,HP2.out,HSW.out⟩,by simp [intOf];omega⟩
  ·have hz:decide (i < j)=false:=by simp;omega
   have hz':¬ (i:Int) < (j:Int):=by omega
   go_wp2
   go_end0
   exact ⟨rfl,dk,HP.out,hS⟩
end Go.Proofs.YtlkmagmdhopcjaaGreat
namespace Go.Proofs.YtlkmagmdhopcjaaGreat
open Go.RowKit Go.Sort Go.Lib
structure Cnt (w:World) (sb:Nat) (w':World):Prop where
 cell:∃ s:Int,w'.heap[sb]?=some (.cells #[.int .i64 s] 3 (0,0))
 lt:sb < w.heap.size
 size:w.heap.size≤w'.heap.size
 block:∀ g,g < w.heap.size→g≠sb→w'.heap[g]?=w.heap[g]?
 os:w'.os=w.os
 tape:w'.tape=w.tape
 output:w'.output=w.output
section
variable {w w1 w2:World} {sb blk off:Nat} {d:Array (Int×Int)}
theorem Cnt.trans (h:Cnt w sb w1) (k:Cnt w1 sb w2):Cnt w sb w2 :=
 ⟨k.cell,h.lt,Nat.le_trans h.size k.size,fun g hg hne=>(k.block g (Nat.lt_of_lt_of_le hg h.size) hne).trans (h.block g hg hne),k.os.trans h.os,k.tape.trans h.tape,k.output.trans h.output⟩
theorem Cnt.holds (h:Cnt w sb w1) (hH:HoldsK qaf 2 w blk off d) (hl:blk < w.heap.size) (hne:blk≠sb):HoldsK qaf 2 w1 blk off d:=fun t ht =>
 ⟨(World.cell?_of_block (a:=⟨blk,off + t,none⟩) (h.block blk hl hne)).trans (hH t ht).1,(World.frozen?_of_block (a:=⟨blk,off + t,none⟩) (h.block blk hl hne)).trans (hH t ht).2⟩
theorem Cnt.below (hb:RowKit.Below w.heap.size w w1) (hl:sb < w.heap.size) (hc:∃ s:Int,w.heap[sb]?=some (.cells #[.int .i64 s] 3 (0,0))):Cnt w sb w1 :=
 ⟨by obtain ⟨s,hs⟩:=hc;exact ⟨s,(hb.block sb hl).trans hs⟩,hl,hb.size,fun g hg _=>hb.block g hg,hb.os,hb.tape,hb.output⟩
theorem Cnt.set {s:Int} (h:Cnt w sb w1) (hc:∃ t:Int,w1.heap[sb]?=some (.cells #[.int .i64 t] 3 (0,0))):Cnt w sb (w1.setCell ⟨sb,0,none⟩ (.int .i64 s)) :=
 ⟨by obtain ⟨t,ht⟩:=hc;exact ⟨s,by simp [World.setCell,Array.getElem?_modify,ht]⟩,h.lt,by simpa [World.setCell] using h.size,fun g hg hne=>(RowKit.Below.heap_setCell _ _ _ _ hne).trans (h.block g hg hne),h.os,h.tape,h.output⟩
end
theorem qqb {W:World} {B:Nat} {v:Value} {t:TypeId} (h:W.heap[B]?=some (.cells #[v] t (0,0))):W.cell? ⟨B,0,none⟩=some v∧W.frozen? ⟨B,0,none⟩=false:=by
 simp [World.cell?,World.frozen?,h]
set_option maxRecDepth 100000 in
set_option maxHeartbeats 8000000 in
theorem qua (blk off cap a b sb N:Nat) (d:Array (Int×Int)) (w:World) (hH:HoldsK qaf 2 w blk off d) (hblk:blk < w.heap.size) (hN:d.size=N) (ha:a < N) (hb:b < N) (hsb:sb < w.heap.size) (hcc:∃ s:Int,w.heap[sb]?=some (.cells #[.int .i64 s] 3 (0,0))) :
 Calls Tryz.prog 319 #[.slice (some ⟨blk,off,none⟩) N cap,.int .i64 a,.int .i64 b,.pointer (some ⟨sb,0,none⟩),.func (.func 215) #[.agg #[]] #[]] w fun e w'=>∃ x y:Nat,e=.returned (.tuple #[.int .i64 x,.int .i64 y])∧((x=a∧y=b)∨(x=b∧y=a))∧Cnt w sb w':=by
 have hS:=Srt.refl hH hblk
 have HN:=hI hN
 have k2:N≤d.size:=Nat.le_of_eq hN.symm
 clear hH hN
 obtain ⟨x1,hx1⟩:∃ x,d[b]! = x:=⟨_,rfl⟩
 obtain ⟨x2,hx2⟩:∃ x,d[a]! = x:=⟨_,rfl⟩
 have p0:=fun p=>(hS.cells (i:=b) (by omega) p).1
 have p1:=fun p=>(hS.cells (i:=b) (by omega) p).2
 have q0:=fun p=>(hS.cells (i:=a) (by omega) p).1
 have q1:=fun p=>(hS.cells (i:=a) (by omega) p).2
 simp only [hx1] at p0 p1
 simp only [hx2] at q0 q1
 clear hx1 hx2
 have hcv1:=fun W=>qcl x1 x2 W
 have HLv1:=hI (qbu x1 x2)
 generalize cmpA x1 x2=v1 at hcv1 HLv1
 have HCv1:=hI hcv1
 clear hcv1
 have i1:(a:Int) < (N:Int):=by omega
 have i2:(b:Int) < (N:Int):=by omega
 by_cases hv:v1 < 0
 ·go_enter Tryz.func319,Tryz.ntmps319
  go_wp2_with fail
  refine qad (by kernel_rfl) (by kernel_rfl) ?_
  repeat (first | go_big_quiet_step ((go_at_call 215;exact Calls.ext_of (HCv1.out _))) | quiet_step ((go_at_call 215;exact Calls.ext_of (HCv1.out _))))
  refine wpQuiet_nil ?_
  intro w' hw'
  obtain ⟨⟨W,hbW⟩,hw''⟩:=hw'
  have hw3:w'=W:=hw''
  subst hw3
  have hS2:=hS.below hbW
  have hC:=Cnt.below hbW hsb hcc
  clear hbW hw''
  obtain ⟨s,hs⟩:=hC.cell
  obtain ⟨c1,c2⟩:=qqb hs
  have HCS:=hI hs
  clear hs hS2 p0 p1 q0 q1
  go_wp2
  exact bodyPost_ret (v:=.tuple #[.int .i64 b,.int .i64 a]) (by simp [results,Tryz.results319,go_sem]) rfl ⟨b,a,rfl,Or.inr ⟨rfl,rfl⟩,hC.set ⟨s,HCS.out⟩⟩
 ·have hvd:decide (v1 < 0)=false:=by simp;omega
  go_enter Tryz.func319,Tryz.ntmps319
  go_wp2_with fail
  refine qad (by kernel_rfl) (by kernel_rfl) ?_
  repeat (first | go_big_quiet_step ((go_at_call 215;exact Calls.ext_of (HCv1.out _))) | quiet_step ((go_at_call 215;exact Calls.ext_of (HCv1.out _))))
  refine wpQuiet_nil ?_
  intro w' hw'
  obtain ⟨⟨W,hbW⟩,hw''⟩:=hw'
  have hw3:w'=W:=hw''
  subst hw3
  have hS2:=hS.below hbW
  have hC:=Cnt.below hbW hsb hcc
  clear hbW hw''
  clear hS2 p0 p1 q0 q1
  go_wp2
  exact bodyPost_ret (v:=.tuple #[.int .i64 a,.int .i64 b]) (by simp [results,Tryz.results319,go_sem]) rfl ⟨a,b,rfl,Or.inl ⟨rfl,rfl⟩,hC⟩
set_option maxRecDepth 100000 in
set_option maxHeartbeats 8000000 in
theorem qub (blk off cap a b c sb N:Nat) (d:Array (Int×Int)) (w:World) (hH:HoldsK qaf 2 w blk off d) (hblk:blk < w.heap.size) (hN:d.size=N) (ha:a < N) (hb:b < N) (hc:c < N) (hne:blk≠sb) (hsb:sb < w.heap.size) (hcc:∃ s:Int,w.heap[sb]?=some (.cells #[.int .i64 s] 3 (0,0))) :
 Calls Tryz.prog 304 #[.slice (some ⟨blk,off,none⟩) N cap,.int .i64 a,.int .i64 b,.int .i64 c,.pointer (some ⟨sb,0,none⟩),.func (.func 215) #[.agg #[]] #[]] w fun e w'=>∃ x:Nat,e=.returned (.int .i64 x)∧(x=a∨x=b∨x=c)∧Cnt w sb w':=by
 have HX1:=hI (qua blk off cap a b sb N d w hH hblk hN ha hb hsb hcc)
 go_enter Tryz.func304,Tryz.ntmps304
 go_wp2_with fail
 refine HX1.out.mono ?_
 rintro e w1 ⟨x,y,rfl,hxy,hC1⟩
 have hx:x < N:=by omega
 have hy:y < N:=by omega
 have HXY:=hI hxy
 clear hxy
 have HX2:=hI (qua blk off cap y c sb N d w1 (hC1.holds hH hblk hne) (Nat.lt_of_lt_of_le hblk hC1.size) hN hy hc (Nat.lt_of_lt_of_le hsb hC1.size) hC1.cell)
 go_wp2_with fail
 refine HX2.out.mono ?_
 rintro e w2 ⟨y2,c2,rfl,hyc,hC2⟩
 have hy2:y2 < N:=by omega
 have HYC:=hI hyc
 clear hyc
 have hC12:=hC1.trans hC2
 have HX3:=hI (qua blk off cap x y2 sb N d w2 (hC12.holds hH hblk hne) (Nat.lt_of_lt_of_le hblk hC12.size) hN hx hy2 (Nat.lt_of_lt_of_le hsb hC12.size) hC12.cell)
 go_wp2_with fail
 refine HX3.out.mono ?_
 rintro e w3 ⟨x3,y3,rfl,hxy3,hC3⟩
 have HXY3:=hI hxy3
 clear hxy3
 go_wp2
 go_ret
 exact ⟨y3,rfl,by have:=HXY.out;have:=HYC.out;have:=HXY3.out;omega,hC12.trans hC3⟩
theorem quc (blk off cap a sb N:Nat) (d:Array (Int×Int)) (w:World) (hH:HoldsK qaf 2 w blk off d) (hblk:blk < w.heap.size) (hN:d.size=N) (h1:1≤a) (ha:a + 1 < N) (hsz:N≤1000000) (hne:blk≠sb) (hsb:sb < w.heap.size) (hcc:∃ s:Int,w.heap[sb]?=some (.cells #[.int .i64 s] 3 (0,0))) :
 Calls Tryz.prog 303 #[.slice (some ⟨blk,off,none⟩) N cap,.int .i64 a,.pointer (some ⟨sb,0,none⟩),.func (.func 215) #[.agg #[]] #[]] w fun e w'=>∃ x:Nat,e=.returned (.int .i64 x)∧(a≤x + 1∧x≤a + 1)∧Cnt w sb w':=by
 obtain ⟨a0,u1,u2⟩:∃ n,n + 1≤a∧a≤n + 1:=⟨a - 1,by omega,by omega⟩
 obtain ⟨a1,u3,u4⟩:∃ n,n≤a + 1∧a + 1≤n:=⟨_,Nat.le_refl _,Nat.le_refl _⟩
 have s1:(a:Int) - 1=(a0:Int):=by omega
 have s2:(a:Int) + 1=(a1:Int):=by omega
 have HX:=hI (qub blk off cap a0 a a1 sb N d w hH hblk hN (by omega) (by omega) (by omega) hne hsb hcc)
 go_enter Tryz.func303,Tryz.ntmps303
 go_wp2_with fail
 refine HX.out.mono ?_
 rintro e w1 ⟨x,rfl,hx,hC⟩
 have HXX:=hI hx
 clear hx
 go_wp2
 go_ret
 exact ⟨x,rfl,by have:=HXX.out;omega,hC⟩
set_option maxRecDepth 100000 in
set_option maxHeartbeats 8000000 in
theorem piv_any (blk off cap a b N:Nat) (d:Array (Int×Int)) (w:World) (hH:HoldsK qaf 2 w blk off d) (hblk:blk < w.heap.size) (hN:d.size=N) (hab:a + 12 < b) (hb:b≤N) (hsz:N≤1000000) :
 Calls Tryz.prog 277 #[.slice (some ⟨blk,off,none⟩) N cap,.int .i64 a,.int .i64 b,.func (.func 215) #[.agg #[]] #[]] w fun e w'=>∃ p h:Nat,e=.returned (.tuple #[.int .i64 p,.int .i64 h])∧a≤p∧p < b∧h≤2∧RowKit.Below w.heap.size w w':=by
 obtain ⟨l,l1,l2⟩:∃ n,n≤b - a∧b - a≤n:=⟨_,Nat.le_refl _,Nat.le_refl _⟩
 obtain ⟨q,q1,q2⟩:∃ n,n≤l / 4∧l / 4≤n:=⟨_,Nat.le_refl _,Nat.le_refl _⟩
 obtain ⟨i,i1,i2⟩:∃ n,n≤a + q∧a + q≤n:=⟨_,Nat.le_refl _,Nat.le_refl _⟩
 obtain ⟨j,j1,j2⟩:∃ n,n≤a + q * 2∧a + q * 2≤n:=⟨_,Nat.le_refl _,Nat.le_refl _⟩
 obtain ⟨k,k1,k2⟩:∃ n,n≤a + q * 3∧a + q * 3≤n:=⟨_,Nat.le_refl _,Nat.le_refl _⟩
 have s1:(b:Int) - (a:Int)=(l:Int):=by omega
 have s2:(l:Int) / 4=(q:Int):=by omega
 have s3:(a:Int) + (q:Int)=(i:Int):=by omega
 have s4:(a:Int) + (q:Int) * 2=(j:Int):=by omega
 have s5:(a:Int) + (q:Int) * 3=(k:Int):=by omega
 have s6:(8:Int)≤(l:Int):=by omega
 have hH1:HoldsK qaf 2 (w.alloc (.cells #[.int .i64 0] 3)) blk off d:=fun t ht=>⟨(World.cell?_alloc_lt w _ ⟨blk,off + t,none⟩ hblk).trans (hH t ht).1,(World.frozen?_alloc_old w _ ⟨blk,off + t,none⟩ (by show blk≠w.heap.size;omega)).trans (hH t ht).2⟩
 have hb1:blk < (w.alloc (.cells #[.int .i64 0] 3)).heap.size:=by simp;omega
 have hs1:w.heap.size < (w.alloc (.cells #[.int .i64 0] 3)).heap.size:=by simp
 have hc1:∃ s:Int,(w.alloc (.cells #[.int .i64 0] 3)).heap[w.heap.size]?=some (.cells #[.int .i64 s] 3 (0,0)):=⟨0,heap_alloc_new w _⟩
 have hne:blk≠w.heap.size:=by omega
 have HB0:=hI (bel1 w (.cells #[.int .i64 0] 3))
 by_cases h50:50≤l
 ·have s7:(50:Int)≤(l:Int):=by omega
  go_enter Tryz.func277,Tryz.ntmps277
  go_wp2_with fail
  generalize w.alloc (.cells #[.int .i64 0] 3)=w0 at hH1 hb1 hs1 hc1 HB0 ⊢
  refine (quc blk off cap i w.heap.size N d w0 hH1 hb1 hN (by omega) (by omega) hsz hne hs1 hc1).mono ?_
  rintro e w1 ⟨x1,rfl,hx1,hC⟩
  go_wp2_with fail
  refine (quc blk off cap j w.heap.size N d w1 (hC.holds hH1 hb1 hne) (Nat.lt_of_lt_of_le hb1 hC.size) hN (by omega) (by omega) hsz hne (Nat.lt_of_lt_of_le hs1 hC.size) hC.cell).mono ?_
  rintro e w2 ⟨x2,rfl,hx2,hC2⟩
  have hC:=hC.trans hC2
  go_wp2_with fail
  refine (quc blk off cap k w.heap.size N d w2 (hC.holds hH1 hb1 hne) (Nat.lt_of_lt_of_le hb1 hC.size) hN (by omega) (by omega) hsz hne (Nat.lt_of_lt_of_le hs1 hC.size) hC.cell).mono ?_
  rintro e w3 ⟨x3,rfl,hx3,hC3⟩
  have hC:=hC.trans hC3
  go_wp2_with fail
  refine (qub blk off cap x1 x2 x3 w.heap.size N d w3 (hC.holds hH1 hb1 hne) (Nat.lt_of_lt_of_le hb1 hC.size) hN (by omega) (by omega) (by omega) hne (Nat.lt_of_lt_of_le hs1 hC.size) hC.cell).mono ?_
  rintro e w4 ⟨x4,rfl,hx4,hC4⟩
  have hC:=hC.trans hC4
  have p1:a≤x4:=by omega
  have p2:x4 < b:=by omega
  clear hC2 hC3 hC4 hx4 hx3 hx2 hx1
  obtain ⟨s,hs⟩:=hC.cell
  obtain ⟨c1,c2⟩:=qqb hs
  have hBF:RowKit.Below w.heap.size w w4:=⟨hC.os.trans HB0.out.os,hC.tape.trans HB0.out.tape,hC.output.trans HB0.out.output,Nat.le_trans HB0.out.size hC.size,fun g hg=>(hC.block g (by omega) (by omega)).trans (HB0.out.block g hg)⟩
  have HBF:=hI hBF
  clear hBF hs
  by_cases t0:s=0
  ·have t0':(s == 0)=true:=by simp [t0]
   clear t0
   go_wp2
   exact bodyPost_ret (v:=.tuple #[.int .i64 x4,.int .i64 (1:Nat)]) (by simp [results,Tryz.results277,go_sem]) rfl ⟨x4,1,rfl,p1,p2,by omega,HBF.out⟩
  ·have t0':(s == 0)=false:=by simp [t0]
   by_cases t1:s=12
   ·have t1':(s == 12)=true:=by simp [t1]
    clear t0 t1
    go_wp2
    exact bodyPost_ret (v:=.tuple #[.int .i64 x4,.int .i64 (2:Nat)]) (by simp [results,Tryz.results277,go_sem]) rfl ⟨x4,2,rfl,p1,p2,by omega,HBF.out⟩
   ·have t1':(s == 12)=false:=by simp [t1]
    clear t0 t1
    go_wp2
    exact bodyPost_ret (v:=.tuple #[.int .i64 x4,.int .i64 (0:Nat)]) (by simp [results,Tryz.results277,go_sem]) rfl ⟨x4,0,rfl,p1,p2,by omega,HBF.out⟩
 ·have s7:decide ((50:Int)≤(l:Int))=false:=by simp;omega
  go_enter Tryz.func277,Tryz.ntmps277
  go_wp2_with fail
  generalize w.alloc (.cells #[.int .i64 0] 3)=w0 at hH1 hb1 hs1 hc1 HB0 ⊢
  refine (qub blk off cap i j k w.heap.size N d w0 hH1 hb1 hN (by omega) (by omega) (by omega) hne hs1 hc1).mono ?_
  rintro e w4 ⟨x4,rfl,hx4,hC⟩
  have p1:a≤x4:=by omega
  have p2:x4 < b:=by omega
  clear hx4
  obtain ⟨s,hs⟩:=hC.cell
  obtain ⟨c1,c2⟩:=qqb hs
  have hBF:RowKit.Below w.heap.size w w4:=⟨hC.os.trans HB0.out.os,hC.tape.trans HB0.out.tape,hC.output.trans HB0.out.output,Nat.le_trans HB0.out.size hC.size,fun g hg=>(hC.block g (by omega) (by omega)).trans (HB0.out.block g hg)⟩
  have HBF:=hI hBF
  clear hBF hs
  by_cases t0:s=0
  ·have t0':(s == 0)=true:=by simp [t0]
   clear t0
   go_wp2
   exact bodyPost_ret (v:=.tuple #[.int .i64 x4,.int .i64 (1:Nat)]) (by simp [results,Tryz.results277,go_sem]) rfl ⟨x4,1,rfl,p1,p2,by omega,HBF.out⟩
  ·have t0':(s == 0)=false:=by simp [t0]
   by_cases t1:s=12
   ·have t1':(s == 12)=true:=by simp [t1]
    clear t0 t1
    go_wp2
    exact bodyPost_ret (v:=.tuple #[.int .i64 x4,.int .i64 (2:Nat)]) (by simp [results,Tryz.results277,go_sem]) rfl ⟨x4,2,rfl,p1,p2,by omega,HBF.out⟩
   ·have t1':(s == 12)=false:=by simp [t1]
    clear t0 t1
    go_wp2
    exact bodyPost_ret (v:=.tuple #[.int .i64 x4,.int .i64 (0:Nat)]) (by simp [results,Tryz.results277,go_sem]) rfl ⟨x4,0,rfl,p1,p2,by omega,HBF.out⟩
end Go.Proofs.YtlkmagmdhopcjaaGreat
