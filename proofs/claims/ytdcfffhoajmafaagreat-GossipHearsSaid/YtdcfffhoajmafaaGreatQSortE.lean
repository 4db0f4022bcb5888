/- Texts that the law leans on. -/
import Derived.Deep.CutBlock
import Derived.Test.YtdcfffhoajmafaaGreatQRangesE
import Derived.Test.YtdcfffhoajmafaaGreatQEnC
set_option maxRecDepth 100000
set_option maxHeartbeats 16000000
namespace Go.Proofs.YtdcfffhoajmafaaGreat
open Go.RowKit Go.Sort Go.Lib Go.Proofs.Tryz
def soB (d:Array (Int×Int)) (b i:Nat):Bool:=decide (i < b) && !qaf d[i]! d[i - 1]!
section
variable {lt:Int×Int->Int×Int->Bool} {d:Array (Int×Int)} {b i j:Nat}
theorem qvl (h:(decide (i < b) && !lt d[i]! d[i - 1]!)=false):scanSorted lt d b i=i:=by rw [scanSorted,h];rfl
theorem sorted_go (h:(decide (i < b) && !lt d[i]! d[i - 1]!)=true):scanSorted lt d b i=scanSorted lt d b (i + 1):=by rw [scanSorted,h];rfl
theorem down_stop {k:Nat} (a:k=j + 1) (h:lt d[k]! d[j]! = false):shiftDown lt k d=d:=by subst a;unfold shiftDown;rw [h];rfl
theorem down_go {k:Nat} (a:k=j + 1) (h:lt d[k]! d[j]! = true):shiftDown lt k d=shiftDown lt j (swp d k j):=by
 subst a
 conv=>lhs;unfold shiftDown
 rw [h];rfl
theorem qss:∀ (k:Nat) (d:Array (Int×Int)),(shiftDown lt k d).size=d.size
 | 0,_=>rfl
 | k + 1,d=>by
   unfold shiftDown;split
   .rfl
   rw [qss k,size_swp]
theorem up_end (h:¬ j < b):shiftUp lt b j d=d:=by rw [shiftUp,vao h]
theorem up_stop (h:j < b) (a:lt d[j]! d[j - 1]! = false):shiftUp lt b j d=d:=by rw [shiftUp,vam h,a];rfl
theorem up_go (h:j < b) (a:lt d[j]! d[j - 1]! = true):shiftUp lt b j d=shiftUp lt b (j + 1) (swp d j (j - 1)):=by
 conv=>lhs;rw [shiftUp,vam h,a]
 rfl
end
theorem pins_any (D off c5 a b N:Nat) (d:Array (Int×Int)) (w:World) (hH:HoldsK qae 2 w D off d) (c0:D < w.heap.size) (hN:d.size=N) (e7:a < b) (hb:b<=N) (f2:N<=1000000) :
 Calls prog 279 #[.slice (some ⟨D,off,none⟩) N c5,.int .i64 a,.int .i64 b,.func (.func 215) #[.agg #[]] #[]] w fun e w'=>e=.returned (.bool (partialInsertionSort qaf d a b).2)/\Srt w D off (partialInsertionSort qaf d a b).1 w':=by
 have b9:=Srt.refl hH c0;have HN:=hI hN;clear hH hN;obtain ⟨R,w5,w6⟩:∃ n,n<=a + 1/\a + 1<=n:=⟨_,vaa _,vaa _⟩
 obtain ⟨n,w7,w8⟩:∃ n,n<=b - a/\b - a<=n:=⟨_,vaa _,vaa _⟩
 have M:Hid (partialInsertionSort qaf d a b=partialIns qaf a b 5 R d):=by show partialIns qaf a b 5 (a + 1) d=_;rw [show a + 1=R by omega]
 have s2:(a:Int) + 1=(R:Int):=by omega
 have s3:(b:Int) - (a:Int)=(n:Int):=by omega
 go_in;go_wp2
 go_loopw [9,10] (fun vi vt wr=>∃ (L t:Nat) (m:Array (Int×Int)),vi=.int .i64 L/\vt=.int .i64 t/\t<=5/\a < L/\L<=b/\m.size=N/\Srt w D off m wr/\Hid (partialIns qaf a b (5 - t) L m=partialIns qaf a b 5 R d)) (fun _ vt _=>5 - (intOf vt).toNat)
 case atStart=>exact ⟨R,0,d,rfl,rfl,by omega,by omega,by omega,HN.out,b9,rfl⟩
 case round =>
  clear b9;obtain ⟨L,t,m,rfl,rfl,t1,t2,t3,a5,f,a7⟩:=hrel;have c2:=hI a5;have k5:m.size<=N:=vby a5;have k6:N<=m.size:=vby a5.symm;clear a5;by_cases ht:t < 5
  .have d5:(t:Int) < 5:=by omega
   obtain ⟨s,v3,v4⟩:∃ s,s + 1 + t<=5/\5<=s + 1 + t:=⟨4 - t,by omega,by omega⟩
   have HM:Hid (partialIns qaf a b (s + 1) L m=partialIns qaf a b 5 R d):=by show _=_;rw [<-a7.out];congr 1;omega
   clear a7;go_wp2
   go_loopw [9] (fun vv wr=>∃ i:Nat,vv=.int .i64 i/\(a < i/\L<=i)/\i<=b/\Srt w D off m wr/\Hid (scanSorted qaf m b i=scanSorted qaf m b L)) (fun vv _=>b - (intOf vv).toNat)
   case atStart=>exact ⟨L,rfl,by omega,by omega,f,rfl⟩
   case round =>
    clear f;obtain ⟨i,rfl,f3,f4,f,a8⟩:=hrel;go_upto_region 5 with fail
    go_cut [36] from 19 to 38 (fun c wx=>c=.bool (soB m b i)/\Srt w D off m wx)
    case first =>
     by_cases hg:i < b
     .have d0:(i:Int) < (b:Int):=by omega
      have f5:(i:Int) < (N:Int):=by omega
      obtain ⟨r,y1,y2⟩:∃ n,n + 1<=i/\i<=n + 1:=⟨i - 1,by omega,by omega⟩
      have c6:(i:Int) - 1=(r:Int):=by omega
      have b5:IntKind.i64.wrap ((i:Int) - 1)=(r:Int):=by rw [vbc];omega
      have b4:IntKind.i64.wrap (r:Int)=(r:Int):=by rw [vbc];omega
      have S:Hid (i - 1=r):=by show _=_;omega
      have c3:(r:Int) < (N:Int):=by omega
      obtain ⟨Y,F⟩:∃ x,m[i]! = x:=⟨_,rfl⟩
      obtain ⟨Z,G⟩:∃ x,m[r]! = x:=⟨_,rfl⟩
      have T:=fun p=>(f.cells (i:=i) jo p).1
      have U:=fun p=>(f.cells (i:=i) jo p).2
      have V:=fun p=>(f.cells (i:=r) jo p).1
      have X:=fun p=>(f.cells (i:=r) jo p).2
      simp only [F] at T U;simp only [G] at V X;have B:=hI F;have C:=hI G;clear F G;have h:=fun W=>qdf Y Z W
      have k:=hI (qck Y Z);generalize cmpA Y Z=v1 at h k;have u:=hI h;clear h;have HT:Hid (soB m b i = !decide (v1 < 0)):=by show _=_;unfold soB;rw [S.out,B.out,C.out,k.out];simp [hg]
      by_cases hv:v1 < 0
      .skip
       go_wp2_with fail;refine wprX ?_
       repeat (go_big_quiet_step ((go_at_call 215;exact Calls.ext_of (u.out _))))
       refine wpQn fun w' g=>?_
       have a9:=f.below g;clear g;clear T U V X;go_wp2_with fail;go_meet;exact ⟨congrArg Value.bool (HT.out.trans (by simp [hv])).symm,a9⟩
      have c1:decide (v1 < 0)=false:=by simp;omega
      go_wp2_with fail;refine wprX ?_
      repeat (go_big_quiet_step ((go_at_call 215;exact Calls.ext_of (u.out _))))
      refine wpQn fun w' g=>?_
      have a9:=f.below g;clear g;clear T U V X;go_wp2_with fail;go_meet;exact ⟨congrArg Value.bool (HT.out.trans (by simp [hv])).symm,a9⟩
     have e8:decide (i < b)=false:=by simp;omega
     have d0:¬ (i:Int) < (b:Int):=by omega
     have HT:Hid (soB m b i=false):=by show _=_;unfold soB;simp [hg]
     go_wp2_with fail;go_quiet (fail);go_wp2_with fail;go_meet;exact ⟨congrArg Value.bool HT.out.symm,f.below (qaj (RowKit.Below.refl _ _) nq)⟩
    case rest =>
     clear f;obtain ⟨rfl,f⟩:=hcut;cases hT:soB m b i
     .have a6:Hid (i=scanSorted qaf m b L):=by show _=_;rw [<-a8.out];exact (qvl (lt:=qaf) hT).symm
      have e4:=hI hT;clear a8 hT;by_cases K:i=b
      .have d6:((i:Int) == (b:Int))=true:=by simp [K]
       have d7:(i == b)=true:=by simp [K]
       have v:Hid (partialInsertionSort qaf d a b=(m,true)):=by
        show _=_;rw [M.out,<-HM.out,partialIns_succ,<-a6.out,vam K]
       clear K;go_wp2;go_ret;exact ⟨qad (by rw [v.out]),by rw [v.out];exact f⟩
      have d6:((i:Int) == (b:Int))=false:=by simp;omega
      have d7:(i == b)=false:=by simp [K]
      by_cases b8:b - a < 50
      .have e2:(n:Int) < 50:=by omega
       have v:Hid (partialInsertionSort qaf d a b=(m,false)):=by
        show _=_;rw [M.out,<-HM.out,partialIns_succ,<-a6.out,vao K,vam b8]
       go_wp2;go_ret;exact ⟨qad (by rw [v.out]),by rw [v.out];exact f⟩
      have e2:decide ((n:Int) < 50)=false:=by simp;omega
      have y:Hid (partialIns qaf a b (s + 1) L m=partialIns qaf a b s i (fixUp qaf b i (fixDown qaf a i (swp m i (i - 1))))):=by
       show _=_;rw [partialIns_succ,<-a6.out,vao K,vao b8]
      have e9:(i:Int) < (N:Int):=by omega
      obtain ⟨r,y1,y2⟩:∃ n,n + 1<=i/\i<=n + 1:=⟨i - 1,by omega,by omega⟩
      have c6:(i:Int) - 1=(r:Int):=by omega
      have b5:IntKind.i64.wrap ((i:Int) - 1)=(r:Int):=by rw [vbc];omega
      have b4:IntKind.i64.wrap (r:Int)=(r:Int):=by rw [vbc];omega
      have S:Hid (i - 1=r):=by show _=_;omega
      have c3:(r:Int) < (N:Int):=by omega
      go_upto_region 11 with fail
      go_cut [] from 15 to 140 (fun wx=>Srt w D off (swp (m) i r) wx)
      case first =>
       obtain ⟨x1,b2⟩:∃ x,(m)[i]! = x:=⟨_,rfl⟩
       obtain ⟨R,z1,a2,z2⟩:=f.own (i:=i) jo;have E:=f.swap (i:=i) (j:=r) jo jo;rw [b2] at R a2;obtain ⟨x2,b3⟩:∃ x,(m)[r]! = x:=⟨_,rfl⟩
       obtain ⟨a3,z3,a4,z4⟩:=f.own (i:=r) jo;rw [b3] at a3 a4;rw [b2,b3] at E;clear b2 b3;have P:=hI E;clear E;go_wp2_with fail;go_region
       all_goals go_wp2_with fail
       go_meet;exact P.out
      case rest =>
       clear f;have f:=hcut;clear hcut;have z:Hid ((swp m i r).size=N):=by show _=_;rw [size_swp];exact c2.out
       rw [S.out] at y;generalize swp m i r=d1 at f y z;have k3:d1.size<=N:=vby z.out;have k4:N<=d1.size:=vby z.out.symm;obtain ⟨ia,g1,g2⟩:∃ n,n<=i - a/\i - a<=n:=⟨_,vaa _,vaa _⟩
       obtain ⟨bi,g3,g4⟩:∃ n,n<=b - i/\b - i<=n:=⟨_,vaa _,vaa _⟩
       have s5:(i:Int) - (a:Int)=(ia:Int):=by omega
       have s6:(b:Int) - (i:Int)=(bi:Int):=by omega
       go_upto_if 65 with fail
       go_cut [11] from 15 to 140 (fun _ wx=>Srt w D off (fixDown qaf a i d1) wx)
       case first =>
        by_cases h2:2<=ia
        .have c8:(2:Int)<=(ia:Int):=by omega
         go_wp2
         go_loopw [11] (fun vj wr=>∃ (j:Nat) (o:Array (Int×Int)),vj=.int .i64 j/\j<=r/\o.size=N/\Srt w D off o wr/\Hid (shiftDown qaf j o=shiftDown qaf r d1)) (fun vj _=>(intOf vj).toNat)
         case atStart=>exact ⟨r,d1,rfl,vaa _,z.out,f,rfl⟩
         case round =>
          clear f;obtain ⟨j,o,rfl,u1,I,f,HU⟩:=hrel;have O:=hI I;have k7:o.size<=N:=vby I;have k8:N<=o.size:=vby I.symm;clear I;by_cases f0:1<=j
          .have b1:(1:Int)<=(j:Int):=by omega
           have d3:(j:Int) < (N:Int):=by omega
           obtain ⟨l,y1,y2⟩:∃ n,n + 1<=j/\j<=n + 1:=⟨j - 1,by omega,by omega⟩
           have c7:(j:Int) - 1=(l:Int):=by omega
           have b7:IntKind.i64.wrap ((j:Int) - 1)=(l:Int):=by rw [vbc];omega
           have b6:IntKind.i64.wrap (l:Int)=(l:Int):=by rw [vbc];omega
           have a0:Hid (j - 1=l):=by show _=_;omega
           have c4:(l:Int) < (N:Int):=by omega
           obtain ⟨Y,F⟩:∃ x,o[j]! = x:=⟨_,rfl⟩
           obtain ⟨Z,G⟩:∃ x,o[l]! = x:=⟨_,rfl⟩
           have T:=fun p=>(f.cells (i:=j) jo p).1
           have U:=fun p=>(f.cells (i:=j) jo p).2
           have V:=fun p=>(f.cells (i:=l) jo p).1
           have X:=fun p=>(f.cells (i:=l) jo p).2
           simp only [F] at T U;simp only [G] at V X;have B:=hI F;have C:=hI G;clear F G;have h:=fun W=>qdf Y Z W
           have k:=hI (qck Y Z);generalize cmpA Y Z=v1 at h k;have u:=hI h;clear h;by_cases hv:v1 < 0
           .have A:Hid (shiftDown qaf l (swp o j l)=shiftDown qaf r d1):=by
             show _=_;exact (down_go (j:=l) jo (by rw [B.out,C.out,k.out];simp;omega)).symm.trans HU.out
            go_wp2_with fail;refine wprX ?_
            repeat (go_big_quiet_step ((go_at_call 215;exact Calls.ext_of (u.out _))))
            refine wpQn fun w' g=>?_
            have q:=f.below g;clear g;clear T U V X f;obtain ⟨r1,d8,r2,d9⟩:=q.own (i:=j) jo;obtain ⟨r3,e0,r4,e1⟩:=q.own (i:=l) jo;have E:=q.swap (i:=j) (j:=l) jo jo;rw [B.out] at r1 r2;rw [C.out] at r3 r4;rw [B.out,C.out] at E;have P:=hI E;clear E q;go_wp2_with fail;go_region
            all_goals go_wp2
            exact ⟨⟨l,swp o j l,rfl,by omega,by rw [size_swp];exact O.out,P.out,A⟩,by simp [intOf];omega⟩
           have c1:decide (v1 < 0)=false:=by simp;omega
           have A:Hid (o=shiftDown qaf r d1):=by
            show _=_;rw [<-HU.out,down_stop (j:=l) jo (by rw [B.out,C.out,k.out];simp;omega)]
           go_wp2_with fail;refine wprX ?_
           repeat (go_big_quiet_step ((go_at_call 215;exact Calls.ext_of (u.out _))))
           refine wpQn fun w' g=>?_
           have q:=f.below g;clear g;clear T U V X f;go_wp2_with fail;go_meet;exact (by unfold fixDown;rw [vam jo,S.out,<-A.out];exact q)
          have b1:¬ (1:Int)<=(j:Int):=by omega
          have d4:decide ((1:Int)<=(j:Int))=false:=by simp;omega
          have A:Hid (o=shiftDown qaf r d1):=by
           show _=_;rw [<-HU.out,show j=0 by omega];rfl
          go_wp2_with fail;go_meet;exact (by unfold fixDown;rw [vam jo,S.out,<-A.out];exact f)
        have c8:¬ (2:Int)<=(ia:Int):=by omega
        have e5:decide ((2:Int)<=(ia:Int))=false:=by simp;omega
        go_wp2_with fail;go_meet;exact (by unfold fixDown;rw [vao jo];exact f)
       case rest =>
        clear f;have f:=hcut;clear hcut;have Q:Hid ((fixDown qaf a i d1).size=N):=by
         show _=_;unfold fixDown;split
         .rw [qss];exact z.out
         exact z.out
        have H:=y;clear y z k3 k4;generalize fixDown qaf a i d1=d2 at f H Q;by_cases h3:2<=bi
        .have c9:(2:Int)<=(bi:Int):=by omega
         go_wp2
         go_loopw [12] (fun vj wr=>∃ (j:Nat) (o:Array (Int×Int)),vj=.int .i64 j/\i < j/\j<=b/\o.size=N/\Srt w D off o wr/\Hid (shiftUp qaf b j o=shiftUp qaf b (i + 1) d2)) (fun vj _=>b - (intOf vj).toNat)
         case atStart=>exact ⟨i + 1,d2,by go_num,by omega,by omega,Q.out,f,rfl⟩
         case round =>
          clear f;obtain ⟨j,o,rfl,u1,u2,I,f,HU⟩:=hrel;have O:=hI I;have k7:o.size<=N:=vby I;have k8:N<=o.size:=vby I.symm;clear I;by_cases b0:j < b
          .have b1:(j:Int) < (b:Int):=by omega
           have d3:(j:Int) < (N:Int):=by omega
           obtain ⟨l,y1,y2⟩:∃ n,n + 1<=j/\j<=n + 1:=⟨j - 1,by omega,by omega⟩
           have c7:(j:Int) - 1=(l:Int):=by omega
           have b7:IntKind.i64.wrap ((j:Int) - 1)=(l:Int):=by rw [vbc];omega
           have b6:IntKind.i64.wrap (l:Int)=(l:Int):=by rw [vbc];omega
           have a0:Hid (j - 1=l):=by show _=_;omega
           have c4:(l:Int) < (N:Int):=by omega
           obtain ⟨Y,F⟩:∃ x,o[j]! = x:=⟨_,rfl⟩
           obtain ⟨Z,G⟩:∃ x,o[l]! = x:=⟨_,rfl⟩
           have T:=fun p=>(f.cells (i:=j) jo p).1
           have U:=fun p=>(f.cells (i:=j) jo p).2
           have V:=fun p=>(f.cells (i:=l) jo p).1
           have X:=fun p=>(f.cells (i:=l) jo p).2
           simp only [F] at T U;simp only [G] at V X;have B:=hI F;have C:=hI G;clear F G;have h:=fun W=>qdf Y Z W
           have k:=hI (qck Y Z);generalize cmpA Y Z=v1 at h k;have u:=hI h;clear h;by_cases hv:v1 < 0
           .have A:Hid (shiftUp qaf b (j + 1) (swp o j l)=shiftUp qaf b (i + 1) d2):=by
             show _=_;rw [<-HU.out,up_go b0 (by rw [a0.out,B.out,C.out,k.out];simp;omega),a0.out]
            go_wp2_with fail;refine wprX ?_
            repeat (go_big_quiet_step ((go_at_call 215;exact Calls.ext_of (u.out _))))
            refine wpQn fun w' g=>?_
            have q:=f.below g;clear g;clear T U V X f;obtain ⟨r1,d8,r2,d9⟩:=q.own (i:=j) jo;obtain ⟨r3,e0,r4,e1⟩:=q.own (i:=l) jo;have E:=q.swap (i:=j) (j:=l) jo jo;rw [B.out] at r1 r2;rw [C.out] at r3 r4;rw [B.out,C.out] at E;have P:=hI E;clear E q;go_wp2_with fail;go_region
            all_goals go_wp2
            exact ⟨⟨j + 1,swp o j l,by go_num,by omega,by omega,by rw [size_swp];exact O.out,P.out,A⟩,by simp [intOf];omega⟩
           have c1:decide (v1 < 0)=false:=by simp;omega
           have A:Hid (o=shiftUp qaf b (i + 1) d2):=by
            show _=_;rw [<-HU.out,up_stop b0 (by rw [a0.out,B.out,C.out,k.out];simp;omega)]
           go_wp2_with fail;refine wprX ?_
           repeat (go_big_quiet_step ((go_at_call 215;exact Calls.ext_of (u.out _))))
           refine wpQn fun w' g=>?_
           have q:=f.below g;clear g;clear T U V X f;have f:=q;clear q;have J:Hid (partialIns qaf a b s i o=partialIns qaf a b 5 R d):=by show _=_;rw [<-HM.out,H.out,A.out];unfold fixUp;rw [vam jo]
           go_wp2;exact ⟨⟨i,t + 1,o,rfl,by go_num,by omega,by omega,by omega,O.out,f,by show _=_;rw [<-J.out];congr 1;omega⟩,by simp [intOf];omega⟩
          have b1:¬ (j:Int) < (b:Int):=by omega
          have d4:decide (j < b)=false:=by simp;omega
          have A:Hid (o=shiftUp qaf b (i + 1) d2):=by show _=_;rw [<-HU.out,up_end b0]
          have J:Hid (partialIns qaf a b s i o=partialIns qaf a b 5 R d):=by show _=_;rw [<-HM.out,H.out,A.out];unfold fixUp;rw [vam jo]
          go_wp2;exact ⟨⟨i,t + 1,o,rfl,by go_num,by omega,by omega,by omega,O.out,f,by show _=_;rw [<-J.out];congr 1;omega⟩,by simp [intOf];omega⟩
        have c9:¬ (2:Int)<=(bi:Int):=by omega
        have e6:decide ((2:Int)<=(bi:Int))=false:=by simp;omega
        have J:Hid (partialIns qaf a b s i d2=partialIns qaf a b 5 R d):=by show _=_;rw [<-HM.out,H.out];unfold fixUp;rw [vao jo]
        go_wp2;exact ⟨⟨i,t + 1,d2,rfl,by go_num,by omega,by omega,by omega,Q.out,f,by show _=_;rw [<-J.out];congr 1;omega⟩,by simp [intOf];omega⟩
     have f1:i < b:=by unfold soB at hT;simp at hT;exact hT.1
     have J:Hid (scanSorted qaf m b (i + 1)=scanSorted qaf m b L):=by show _=_;rw [<-a8.out];exact (sorted_go (lt:=qaf) hT).symm
     have e3:=hI hT;go_wp2;exact ⟨⟨i + 1,by go_num,by omega,by omega,f,J⟩,by simp [intOf];omega⟩
  have d5:decide ((t:Int) < 5)=false:=by simp;omega
  have v:Hid (partialInsertionSort qaf d a b=(m,false)):=by
   show _=_;rw [M.out,<-a7.out,show 5 - t=0 by omega];rfl
  go_wp2;go_ret;exact ⟨qad (by rw [v.out]),by rw [v.out];exact f⟩
section
variable {α:Type} [Inhabited α] {p:α->Bool} {d:Array α} {i j j0:Nat}
theorem qjg (h:(decide (i<=j) && p d[i]!)=false):scanUp p d j i=i:=by rw [scanUp,h];rfl
theorem qni (h:(decide (i<=j) && p d[i]!)=true):scanUp p d j i=scanUp p d j (i + 1):=by rw [scanUp,h];rfl
theorem qhl (h:(decide (i<=j) && p d[j]!)=false):scanDown p d i j=j:=by
 cases j with
 | zero=>rfl
 | succ j=>unfold scanDown;rw [h];rfl
theorem qjh (a:j=j0 + 1) (h:(decide (i<=j) && p d[j]!)=true):scanDown p d i j=scanDown p d i j0:=by
 subst a;unfold scanDown;rw [h];cases j0 <;> rfl
end
def upB (d:Array (Int×Int)) (a j i:Nat):Bool:=decide (i<=j) && qaf d[i]! d[a]!
def dnB (d:Array (Int×Int)) (a i j:Nat):Bool:=decide (i<=j) && !qaf d[j]! d[a]!
theorem up_dn {d:Array (Int×Int)} {a J i j:Nat} (b:upB d a J i=false) (c:dnB d a i j=false) (e:j<=J) (f:i<=j):i < j:=by
 rcases val i j with h | h
 .exact h
 obtain rfl:i=j:=by omega
 unfold upB at b;unfold dnB at c;simp [e] at b;simp [b] at c
theorem part_any (r off d3 a b f N:Nat) (d:Array (Int×Int)) (w:World) (hH:HoldsK qae 2 w r off d) (c9:r < w.heap.size) (hN:d.size=N) (h1:a<=f) (h2:f < b) (hb:b<=N) (d6:N<=1000000) :
 Calls prog 281 #[.slice (some ⟨r,off,none⟩) N d3,.int .i64 a,.int .i64 b,.int .i64 f,.func (.func 215) #[.agg #[]] #[]] w fun e w'=>e=.returned (.tuple #[.int .i64 (partition qaf d a b f).1,.bool (partition qaf d a b f).2.1])/\Srt w r off (partition qaf d a b f).2.2 w':=by
 have Y:=Srt.refl hH c9;have HN:=hI hN;have k1:d.size<=N:=vby hN;have k2:N<=d.size:=vby hN.symm;clear hH hN;have i1:(a:Int) < (N:Int):=by omega
 have i2:(f:Int) < (N:Int):=by omega
 go_in;go_upto_region 1 with fail
 go_cut [] from 14 to 27 (fun I=>Srt w r off (swp (d) a f) I)
 case first =>
  by_cases a6:a=f
  .subst a6
   obtain ⟨x1,h⟩:∃ x,(d)[a]! = x:=⟨_,rfl⟩
   obtain ⟨E,z1,L,z2⟩:=Y.own (i:=a) jo;have g:=Y.swap (i:=a) (j:=a) jo jo;rw [h] at E L;rw [h] at g;clear h;have z:=hI g;clear g;go_wp2_with fail;go_region
   all_goals go_wp2_with fail
   go_meet;exact z.out
  skip
  obtain ⟨x1,h⟩:∃ x,(d)[a]! = x:=⟨_,rfl⟩
  obtain ⟨E,z1,L,z2⟩:=Y.own (i:=a) jo;have g:=Y.swap (i:=a) (j:=f) jo jo;rw [h] at E L;obtain ⟨x2,q⟩:∃ x,(d)[f]! = x:=⟨_,rfl⟩
  obtain ⟨a3,z3,a4,z4⟩:=Y.own (i:=f) jo;rw [q] at a3 a4;rw [h,q] at g;clear h q;have z:=hI g;clear g;go_wp2_with fail;go_region
  all_goals go_wp2_with fail
  go_meet;exact z.out
 case rest =>
  clear Y;have c:=hcut;clear hcut;have b0:Hid ((swp d a f).size=N):=by show _=_;rw [size_swp];exact HN.out
  have X:Hid (partition qaf d a b f=(if scanUp (fun x=>qaf x (swp d a f)[a]!) (swp d a f) (b - 1) (a + 1) > scanDown (fun x=>!qaf x (swp d a f)[a]!) (swp d a f) (scanUp (fun x=>qaf x (swp d a f)[a]!) (swp d a f) (b - 1) (a + 1)) (b - 1) then (scanDown (fun x=>!qaf x (swp d a f)[a]!) (swp d a f) (scanUp (fun x=>qaf x (swp d a f)[a]!) (swp d a f) (b - 1) (a + 1)) (b - 1),true,swp (swp d a f) (scanDown (fun x=>!qaf x (swp d a f)[a]!) (swp d a f) (scanUp (fun x=>qaf x (swp d a f)[a]!) (swp d a f) (b - 1) (a + 1)) (b - 1)) a) else
   ((partLoop qaf a (scanUp (fun x=>qaf x (swp d a f)[a]!) (swp d a f) (b - 1) (a + 1) + 1) (scanDown (fun x=>!qaf x (swp d a f)[a]!) (swp d a f) (scanUp (fun x=>qaf x (swp d a f)[a]!) (swp d a f) (b - 1) (a + 1)) (b - 1) - 1) (swp (swp d a f) (scanUp (fun x=>qaf x (swp d a f)[a]!) (swp d a f) (b - 1) (a + 1)) (scanDown (fun x=>!qaf x (swp d a f)[a]!) (swp d a f) (scanUp (fun x=>qaf x (swp d a f)[a]!) (swp d a f) (b - 1) (a + 1)) (b - 1)))).1,false,
     swp (partLoop qaf a (scanUp (fun x=>qaf x (swp d a f)[a]!) (swp d a f) (b - 1) (a + 1) + 1) (scanDown (fun x=>!qaf x (swp d a f)[a]!) (swp d a f) (scanUp (fun x=>qaf x (swp d a f)[a]!) (swp d a f) (b - 1) (a + 1)) (b - 1) - 1) (swp (swp d a f) (scanUp (fun x=>qaf x (swp d a f)[a]!) (swp d a f) (b - 1) (a + 1)) (scanDown (fun x=>!qaf x (swp d a f)[a]!) (swp d a f) (scanUp (fun x=>qaf x (swp d a f)[a]!) (swp d a f) (b - 1) (a + 1)) (b - 1)))).2 (partLoop qaf a (scanUp (fun x=>qaf x (swp d a f)[a]!) (swp d a f) (b - 1) (a + 1) + 1) (scanDown (fun x=>!qaf x (swp d a f)[a]!) (swp d a f) (scanUp (fun x=>qaf x (swp d a f)[a]!) (swp d a f) (b - 1) (a + 1)) (b - 1) - 1) (swp (swp d a f) (scanUp (fun x=>qaf x (swp d a f)[a]!) (swp d a f) (b - 1) (a + 1)) (scanDown (fun x=>!qaf x (swp d a f)[a]!) (swp d a f) (scanUp (fun x=>qaf x (swp d a f)[a]!) (swp d a f) (b - 1) (a + 1)) (b - 1)))).1 a))):=rfl
  generalize swp d a f=k at c X b0;have b3:=b0;have k3:k.size<=N:=vby b3.out;have k4:N<=k.size:=vby b3.out.symm;obtain ⟨F,w3,w4⟩:∃ n,n + 1<=b/\b<=n + 1:=⟨b - 1,by omega,by omega⟩
  obtain ⟨E,w5,w6⟩:∃ n,n<=a + 1/\a + 1<=n:=⟨_,vaa _,vaa _⟩
  have c8:b - 1=F:=by omega
  have c7:a + 1=E:=by omega
  rw [c8,c7] at X;clear c8 c7;have s1:(b:Int) - 1=(F:Int):=by omega
  have s2:(a:Int) + 1=(E:Int):=by omega
  go_wp2
  go_loopw [12] (fun T wr=>∃ i:Nat,T=.int .i64 i/\(a < i/\E<=i)/\i<=F + 1/\Srt w r off k wr/\Hid (scanUp (fun x=>qaf x k[a]!) k F i=scanUp (fun x=>qaf x k[a]!) k F E)) (fun T _=>F + 1 - (intOf T).toNat)
  case atStart=>exact ⟨E,rfl,by omega,by omega,c,rfl⟩
  case round =>
   clear c;obtain ⟨i,rfl,a8,b9,c,J⟩:=hrel;go_upto_region 3 with fail
   go_cut [47] from 32 to 49 (fun s I=>s=.bool (upB k a F i)/\Srt w r off k I)
   case first =>
    by_cases hg:i<=F
    .have M:(i:Int)<=(F:Int):=by omega
     have c0:(i:Int) < (N:Int):=by omega
     obtain ⟨V,C⟩:∃ x,k[i]! = x:=⟨_,rfl⟩
     obtain ⟨U,B⟩:∃ x,k[a]! = x:=⟨_,rfl⟩
     have O:=fun p=>(c.cells (i:=i) jo p).1
     have P:=fun p=>(c.cells (i:=i) jo p).2
     have Q:=fun p=>(c.cells (i:=a) jo p).1
     have R:=fun p=>(c.cells (i:=a) jo p).2
     simp only [C] at O P;simp only [B] at Q R;have o:=fun W=>qdf V U W
     have u:=hI (qck V U);generalize cmpA V U=S at o u;have t:=hI o;clear o;have G:Hid (upB k a F i=(decide (S < 0))):=by show _=_;unfold upB;rw [C,B,u.out];simp [hg]
     clear C B;by_cases hv:S < 0
     .skip
      go_wp2_with fail;refine wprX ?_
      repeat (go_big_quiet_step ((go_at_call 215;exact Calls.ext_of (t.out _))))
      refine wpQn fun w' m=>?_
      have A:=c.below m;clear m;clear O P Q R;go_wp2_with fail;go_meet;exact ⟨congrArg Value.bool (G.out.trans (by simp [hv])).symm,A⟩
     have c4:decide (S < 0)=false:=by simp;omega
     go_wp2_with fail;refine wprX ?_
     repeat (go_big_quiet_step ((go_at_call 215;exact Calls.ext_of (t.out _))))
     refine wpQn fun w' m=>?_
     have A:=c.below m;clear m;clear O P Q R;go_wp2_with fail;go_meet;exact ⟨congrArg Value.bool (G.out.trans (by simp [hv])).symm,A⟩
    have b7:decide (i<=F)=false:=by simp;omega
    have M:¬ (i:Int)<=(F:Int):=by omega
    have G:Hid (upB k a F i=false):=by show _=_;unfold upB;simp [hg]
    go_wp2_with fail;go_quiet (fail);go_wp2_with fail;go_meet;exact ⟨congrArg Value.bool G.out.symm,c.below (qaj (RowKit.Below.refl _ _) nq)⟩
   case rest =>
    clear c;obtain ⟨rfl,c⟩:=hcut;cases y:upB k a F i
    .have b5:=hI y
     have Z:Hid (i=scanUp (fun x=>qaf x k[a]!) k F E):=by show _=_;rw [<-J.out];exact (qjg (p:=fun x=>qaf x k[a]!) (d:=k) y).symm
     clear J y;go_wp2
     go_loopw [13] (fun T wr=>∃ j:Nat,T=.int .i64 j/\j<=F/\i<=j + 1/\Srt w r off k wr/\Hid (scanDown (fun x=>!qaf x k[a]!) k i j=scanDown (fun x=>!qaf x k[a]!) k i F)) (fun T _=>(intOf T).toNat)
     case atStart=>exact ⟨F,rfl,by omega,by omega,c,rfl⟩
     case round =>
      clear c;obtain ⟨j,rfl,a8,b9,c,J⟩:=hrel;go_upto_region 5 with fail
      go_cut [66] from 50 to 68 (fun s I=>s=.bool (dnB k a i j)/\Srt w r off k I)
      case first =>
       by_cases hg:i<=j
       .have M:(i:Int)<=(j:Int):=by omega
        have c0:(j:Int) < (N:Int):=by omega
        obtain ⟨V,C⟩:∃ x,k[j]! = x:=⟨_,rfl⟩
        obtain ⟨U,B⟩:∃ x,k[a]! = x:=⟨_,rfl⟩
        have O:=fun p=>(c.cells (i:=j) jo p).1
        have P:=fun p=>(c.cells (i:=j) jo p).2
        have Q:=fun p=>(c.cells (i:=a) jo p).1
        have R:=fun p=>(c.cells (i:=a) jo p).2
        simp only [C] at O P;simp only [B] at Q R;have o:=fun W=>qdf V U W
        have u:=hI (qck V U);generalize cmpA V U=S at o u;have t:=hI o;clear o;have G:Hid (dnB k a i j=(!decide (S < 0))):=by show _=_;unfold dnB;rw [C,B,u.out];simp [hg]
        clear C B;by_cases hv:S < 0
        .skip
         go_wp2_with fail;refine wprX ?_
         repeat (go_big_quiet_step ((go_at_call 215;exact Calls.ext_of (t.out _))))
         refine wpQn fun w' m=>?_
         have A:=c.below m;clear m;clear O P Q R;go_wp2_with fail;go_meet;exact ⟨congrArg Value.bool (G.out.trans (by simp [hv])).symm,A⟩
        have c4:decide (S < 0)=false:=by simp;omega
        go_wp2_with fail;refine wprX ?_
        repeat (go_big_quiet_step ((go_at_call 215;exact Calls.ext_of (t.out _))))
        refine wpQn fun w' m=>?_
        have A:=c.below m;clear m;clear O P Q R;go_wp2_with fail;go_meet;exact ⟨congrArg Value.bool (G.out.trans (by simp [hv])).symm,A⟩
       have b7:decide (i<=j)=false:=by simp;omega
       have M:¬ (i:Int)<=(j:Int):=by omega
       have G:Hid (dnB k a i j=false):=by show _=_;unfold dnB;simp [hg]
       go_wp2_with fail;go_quiet (fail);go_wp2_with fail;go_meet;exact ⟨congrArg Value.bool G.out.symm,c.below (qaj (RowKit.Below.refl _ _) nq)⟩
      case rest =>
       clear c;obtain ⟨rfl,c⟩:=hcut;cases y:dnB k a i j
       .have b6:=hI y
        have a0:Hid (j=scanDown (fun x=>!qaf x k[a]!) k i F):=by show _=_;rw [<-J.out];exact (qhl (p:=fun x=>!qaf x k[a]!) (d:=k) y).symm
        clear J y;by_cases a7:j < i
        .have hz:(j:Int) < (i:Int):=by omega
         have H:Hid (partition qaf d a b f=(j,true,swp k j a)):=by
          show _=_;rw [X.out,<-Z.out,<-a0.out,vam a7]
         go_upto_region 8 with fail
         go_cut [] from 72 to 85 (fun I=>Srt w r off (swp (k) j a) I)
         case first =>
          by_cases a6:j=a
          .subst a6
           obtain ⟨x1,h⟩:∃ x,(k)[j]! = x:=⟨_,rfl⟩
           obtain ⟨E,z1,L,z2⟩:=c.own (i:=j) jo;have g:=c.swap (i:=j) (j:=j) jo jo;rw [h] at E L;rw [h] at g;clear h;have z:=hI g;clear g;go_wp2_with fail;go_region
           all_goals go_wp2_with fail
           go_meet;exact z.out
          skip
          obtain ⟨x1,h⟩:∃ x,(k)[j]! = x:=⟨_,rfl⟩
          obtain ⟨E,z1,L,z2⟩:=c.own (i:=j) jo;have g:=c.swap (i:=j) (j:=a) jo jo;rw [h] at E L;obtain ⟨x2,q⟩:∃ x,(k)[a]! = x:=⟨_,rfl⟩
          obtain ⟨a3,z3,a4,z4⟩:=c.own (i:=a) jo;rw [q] at a3 a4;rw [h,q] at g;clear h q;have z:=hI g;clear g;go_wp2_with fail;go_region
          all_goals go_wp2_with fail
          go_meet;exact z.out
         case rest =>
          go_wp2;exact vau (v:=.tuple #[.int .i64 j,.bool true]) (by simp [results,results281,go_sem]) rfl ⟨by rw [H.out],by rw [H.out];exact hcut⟩
        have hz:¬ (j:Int) < (i:Int):=by omega
        have d5:decide (j < i)=false:=by simp;omega
        have d4:i < j:=up_dn b5.out b6.out a8 jo;obtain ⟨J3,w1,w2⟩:∃ n,n + 1<=j/\j<=n + 1:=⟨j - 1,by omega,by omega⟩
        have s9:(j:Int) - 1=(J3:Int):=by omega
        have b2:Hid (partition qaf d a b f=((partLoop qaf a (i + 1) J3 (swp k i j)).1,false,swp (partLoop qaf a (i + 1) J3 (swp k i j)).2 (partLoop qaf a (i + 1) J3 (swp k i j)).1 a)):=by
         show _=_;rw [X.out,<-Z.out,<-a0.out,vao a7,show j - 1=J3 by omega]
        go_upto_region 10 with fail
        go_cut [] from 87 to 100 (fun I=>Srt w r off (swp (k) i j) I)
        case first =>
         obtain ⟨x1,h⟩:∃ x,(k)[i]! = x:=⟨_,rfl⟩
         obtain ⟨E,z1,L,z2⟩:=c.own (i:=i) jo;have g:=c.swap (i:=i) (j:=j) jo jo;rw [h] at E L;obtain ⟨x2,q⟩:∃ x,(k)[j]! = x:=⟨_,rfl⟩
         obtain ⟨a3,z3,a4,z4⟩:=c.own (i:=j) jo;rw [q] at a3 a4;rw [h,q] at g;clear h q;have z:=hI g;clear g;go_wp2_with fail;go_region
         all_goals go_wp2_with fail
         go_meet;exact z.out
        case rest =>
         clear c;generalize i=I2 at *;generalize j=J2 at *;go_wp2;have c6:Hid ((swp k I2 J2).size=N):=by show _=_;rw [size_swp];exact b3.out
         go_loopw [12,13] (fun vi vj wr=>∃ (ii D:Nat) (l:Array (Int×Int)),vi=.int .i64 ii/\vj=.int .i64 D/\a < ii/\ii<=D + 1/\D < b/\l.size=N/\Srt w r off l wr/\Hid (partLoop qaf a ii D l=partLoop qaf a (I2 + 1) J3 (swp k I2 J2))) (fun vi vj _=>(intOf vj + 1 - intOf vi).toNat)
         case atStart=>exact ⟨I2 + 1,J3,swp k I2 J2,by go_num,rfl,by omega,by omega,by omega,c6.out,hcut,rfl⟩
         case round =>
          clear hcut;obtain ⟨ii,D,l,rfl,rfl,c1,c2,c3,a9,c,a5⟩:=hrel;have d2:=hI a9;have k5:l.size<=N:=vby a9;have k6:N<=l.size:=vby a9.symm;clear a9;go_wp2
          go_loopw [12] (fun T wr=>∃ i:Nat,T=.int .i64 i/\(a < i/\ii<=i)/\i<=D + 1/\Srt w r off l wr/\Hid (scanUp (fun x=>qaf x l[a]!) l D i=scanUp (fun x=>qaf x l[a]!) l D ii)) (fun T _=>D + 1 - (intOf T).toNat)
          case atStart=>exact ⟨ii,rfl,by omega,by omega,c,rfl⟩
          case round =>
           clear c;obtain ⟨i,rfl,a8,b9,c,J⟩:=hrel;go_upto_region 13 with fail
           go_cut [120] from 105 to 122 (fun s I=>s=.bool (upB l a D i)/\Srt w r off l I)
           case first =>
            by_cases hg:i<=D
            .have M:(i:Int)<=(D:Int):=by omega
             have c0:(i:Int) < (N:Int):=by omega
             obtain ⟨V,C⟩:∃ x,l[i]! = x:=⟨_,rfl⟩
             obtain ⟨U,B⟩:∃ x,l[a]! = x:=⟨_,rfl⟩
             have O:=fun p=>(c.cells (i:=i) jo p).1
             have P:=fun p=>(c.cells (i:=i) jo p).2
             have Q:=fun p=>(c.cells (i:=a) jo p).1
             have R:=fun p=>(c.cells (i:=a) jo p).2
             simp only [C] at O P;simp only [B] at Q R;have o:=fun W=>qdf V U W
             have u:=hI (qck V U);generalize cmpA V U=S at o u;have t:=hI o;clear o;have G:Hid (upB l a D i=(decide (S < 0))):=by show _=_;unfold upB;rw [C,B,u.out];simp [hg]
             clear C B;by_cases hv:S < 0
             .skip
              go_wp2_with fail;refine wprX ?_
              repeat (go_big_quiet_step ((go_at_call 215;exact Calls.ext_of (t.out _))))
              refine wpQn fun w' m=>?_
              have A:=c.below m;clear m;clear O P Q R;go_wp2_with fail;go_meet;exact ⟨congrArg Value.bool (G.out.trans (by simp [hv])).symm,A⟩
             have c4:decide (S < 0)=false:=by simp;omega
             go_wp2_with fail;refine wprX ?_
             repeat (go_big_quiet_step ((go_at_call 215;exact Calls.ext_of (t.out _))))
             refine wpQn fun w' m=>?_
             have A:=c.below m;clear m;clear O P Q R;go_wp2_with fail;go_meet;exact ⟨congrArg Value.bool (G.out.trans (by simp [hv])).symm,A⟩
            have b7:decide (i<=D)=false:=by simp;omega
            have M:¬ (i:Int)<=(D:Int):=by omega
            have G:Hid (upB l a D i=false):=by show _=_;unfold upB;simp [hg]
            go_wp2_with fail;go_quiet (fail);go_wp2_with fail;go_meet;exact ⟨congrArg Value.bool G.out.symm,c.below (qaj (RowKit.Below.refl _ _) nq)⟩
           case rest =>
            clear c;obtain ⟨rfl,c⟩:=hcut;cases y:upB l a D i
            .have b5:=hI y
             have Z:Hid (i=scanUp (fun x=>qaf x l[a]!) l D ii):=by show _=_;rw [<-J.out];exact (qjg (p:=fun x=>qaf x l[a]!) (d:=l) y).symm
             clear J y;go_wp2
             go_loopw [13] (fun T wr=>∃ j:Nat,T=.int .i64 j/\j<=D/\i<=j + 1/\Srt w r off l wr/\Hid (scanDown (fun x=>!qaf x l[a]!) l i j=scanDown (fun x=>!qaf x l[a]!) l i D)) (fun T _=>(intOf T).toNat)
             case atStart=>exact ⟨D,rfl,by omega,by omega,c,rfl⟩
             case round =>
              clear c;obtain ⟨j,rfl,a8,b9,c,J⟩:=hrel;go_upto_region 15 with fail
              go_cut [139] from 123 to 141 (fun s I=>s=.bool (dnB l a i j)/\Srt w r off l I)
              case first =>
               by_cases hg:i<=j
               .have M:(i:Int)<=(j:Int):=by omega
                have c0:(j:Int) < (N:Int):=by omega
                obtain ⟨V,C⟩:∃ x,l[j]! = x:=⟨_,rfl⟩
                obtain ⟨U,B⟩:∃ x,l[a]! = x:=⟨_,rfl⟩
                have O:=fun p=>(c.cells (i:=j) jo p).1
                have P:=fun p=>(c.cells (i:=j) jo p).2
                have Q:=fun p=>(c.cells (i:=a) jo p).1
                have R:=fun p=>(c.cells (i:=a) jo p).2
                simp only [C] at O P;simp only [B] at Q R;have o:=fun W=>qdf V U W
                have u:=hI (qck V U);generalize cmpA V U=S at o u;have t:=hI o;clear o;have G:Hid (dnB l a i j=(!decide (S < 0))):=by show _=_;unfold dnB;rw [C,B,u.out];simp [hg]
                clear C B;by_cases hv:S < 0
                .skip
                 go_wp2_with fail;refine wprX ?_
                 repeat (go_big_quiet_step ((go_at_call 215;exact Calls.ext_of (t.out _))))
                 refine wpQn fun w' m=>?_
                 have A:=c.below m;clear m;clear O P Q R;go_wp2_with fail;go_meet;exact ⟨congrArg Value.bool (G.out.trans (by simp [hv])).symm,A⟩
                have c4:decide (S < 0)=false:=by simp;omega
                go_wp2_with fail;refine wprX ?_
                repeat (go_big_quiet_step ((go_at_call 215;exact Calls.ext_of (t.out _))))
                refine wpQn fun w' m=>?_
                have A:=c.below m;clear m;clear O P Q R;go_wp2_with fail;go_meet;exact ⟨congrArg Value.bool (G.out.trans (by simp [hv])).symm,A⟩
               have b7:decide (i<=j)=false:=by simp;omega
               have M:¬ (i:Int)<=(j:Int):=by omega
               have G:Hid (dnB l a i j=false):=by show _=_;unfold dnB;simp [hg]
               go_wp2_with fail;go_quiet (fail);go_wp2_with fail;go_meet;exact ⟨congrArg Value.bool G.out.symm,c.below (qaj (RowKit.Below.refl _ _) nq)⟩
              case rest =>
               clear c;obtain ⟨rfl,c⟩:=hcut;cases y:dnB l a i j
               .have b6:=hI y
                have a0:Hid (j=scanDown (fun x=>!qaf x l[a]!) l i D):=by show _=_;rw [<-J.out];exact (qhl (p:=fun x=>!qaf x l[a]!) (d:=l) y).symm
                clear J y;by_cases a7:j < i
                .have hz:(j:Int) < (i:Int):=by omega
                 have H:Hid (partition qaf d a b f=(j,false,swp l j a)):=by
                  show _=_;rw [b2.out,<-a5.out,partLoop_eq,<-Z.out,<-a0.out,vam a7]
                 go_upto_region 21 with fail
                 go_cut [] from 163 to 177 (fun I=>Srt w r off (swp (l) j a) I)
                 case first =>
                  by_cases a6:j=a
                  .subst a6
                   obtain ⟨x1,h⟩:∃ x,(l)[j]! = x:=⟨_,rfl⟩
                   obtain ⟨E,z1,L,z2⟩:=c.own (i:=j) jo;have g:=c.swap (i:=j) (j:=j) jo jo;rw [h] at E L;rw [h] at g;clear h;have z:=hI g;clear g;go_wp2_with fail;go_region
                   all_goals go_wp2_with fail
                   go_meet;exact z.out
                  skip
                  obtain ⟨x1,h⟩:∃ x,(l)[j]! = x:=⟨_,rfl⟩
                  obtain ⟨E,z1,L,z2⟩:=c.own (i:=j) jo;have g:=c.swap (i:=j) (j:=a) jo jo;rw [h] at E L;obtain ⟨x2,q⟩:∃ x,(l)[a]! = x:=⟨_,rfl⟩
                  obtain ⟨a3,z3,a4,z4⟩:=c.own (i:=a) jo;rw [q] at a3 a4;rw [h,q] at g;clear h q;have z:=hI g;clear g;go_wp2_with fail;go_region
                  all_goals go_wp2_with fail
                  go_meet;exact z.out
                 case rest =>
                  go_wp2;exact vau (v:=.tuple #[.int .i64 j,.bool false]) (by simp [results,results281,go_sem]) rfl ⟨by rw [H.out],by rw [H.out];exact hcut⟩
                have hz:¬ (j:Int) < (i:Int):=by omega
                have d5:decide (j < i)=false:=by simp;omega
                have d4:i < j:=up_dn b5.out b6.out a8 jo;have c5:Hid (partLoop qaf a (i + 1) (j - 1) (swp l i j)=partLoop qaf a (I2 + 1) J3 (swp k I2 J2)):=by
                 show _=_;rw [<-a5.out,partLoop_eq qaf a ii D l,<-Z.out,<-a0.out,vao a7]
                go_upto_region 18 with fail
                go_cut [] from 105 to 162 (fun I=>Srt w r off (swp (l) i j) I)
                case first =>
                 obtain ⟨x1,h⟩:∃ x,(l)[i]! = x:=⟨_,rfl⟩
                 obtain ⟨E,z1,L,z2⟩:=c.own (i:=i) jo;have g:=c.swap (i:=i) (j:=j) jo jo;rw [h] at E L;obtain ⟨x2,q⟩:∃ x,(l)[j]! = x:=⟨_,rfl⟩
                 obtain ⟨a3,z3,a4,z4⟩:=c.own (i:=j) jo;rw [q] at a3 a4;rw [h,q] at g;clear h q;have z:=hI g;clear g;go_wp2_with fail;go_region
                 all_goals go_wp2_with fail
                 go_meet;exact z.out
                case rest =>
                 obtain ⟨j0,w1,w2⟩:∃ n,n + 1<=j/\j<=n + 1:=⟨j - 1,by omega,by omega⟩
                 have s9:(j:Int) - 1=(j0:Int):=by omega
                 have d0:Hid (j - 1=j0):=by show _=_;omega
                 rw [d0.out] at c5;clear c;go_wp2;exact ⟨⟨i + 1,j0,swp l i j,by go_num,rfl,by omega,by omega,by omega,by rw [size_swp];exact d2.out,hcut,c5⟩,by simp [intOf];omega⟩
               have b8:i<=j:=by unfold dnB at y;simp at y;exact y.1
               obtain ⟨j0,w1,w2⟩:∃ n,n + 1<=j/\j<=n + 1:=⟨j - 1,by omega,by omega⟩
               have s9:(j:Int) - 1=(j0:Int):=by omega
               have K:Hid (scanDown (fun x=>!qaf x l[a]!) l i j0=scanDown (fun x=>!qaf x l[a]!) l i D):=by show _=_;rw [<-J.out];exact (qjh (p:=fun x=>!qaf x l[a]!) (d:=l) jo y).symm
               have b4:=hI y;go_wp2;exact ⟨⟨j0,rfl,by omega,by omega,c,K⟩,by simp [intOf];omega⟩
            have b8:i<=D:=by unfold upB at y;simp at y;exact y.1
            have K:Hid (scanUp (fun x=>qaf x l[a]!) l D (i + 1)=scanUp (fun x=>qaf x l[a]!) l D ii):=by show _=_;rw [<-J.out];exact (qni (p:=fun x=>qaf x l[a]!) (d:=l) y).symm
            have b4:=hI y;go_wp2;exact ⟨⟨i + 1,by go_num,by omega,by omega,c,K⟩,by simp [intOf];omega⟩
       have b8:i<=j:=by unfold dnB at y;simp at y;exact y.1
       obtain ⟨j0,w1,w2⟩:∃ n,n + 1<=j/\j<=n + 1:=⟨j - 1,by omega,by omega⟩
       have s9:(j:Int) - 1=(j0:Int):=by omega
       have K:Hid (scanDown (fun x=>!qaf x k[a]!) k i j0=scanDown (fun x=>!qaf x k[a]!) k i F):=by show _=_;rw [<-J.out];exact (qjh (p:=fun x=>!qaf x k[a]!) (d:=k) jo y).symm
       have b4:=hI y;go_wp2;exact ⟨⟨j0,rfl,by omega,by omega,c,K⟩,by simp [intOf];omega⟩
    have b8:i<=F:=by unfold upB at y;simp at y;exact y.1
    have K:Hid (scanUp (fun x=>qaf x k[a]!) k F (i + 1)=scanUp (fun x=>qaf x k[a]!) k F E):=by show _=_;rw [<-J.out];exact (qni (p:=fun x=>qaf x k[a]!) (d:=k) y).symm
    have b4:=hI y;go_wp2;exact ⟨⟨i + 1,by go_num,by omega,by omega,c,K⟩,by simp [intOf];omega⟩
def upE (d:Array (Int×Int)) (a j i:Nat):Bool:=decide (i<=j) && !qaf d[a]! d[i]!
def dnE (d:Array (Int×Int)) (a i j:Nat):Bool:=decide (i<=j) && qaf d[a]! d[j]!
theorem up_dnE {d:Array (Int×Int)} {a J i j:Nat} (b:upE d a J i=false) (c:dnE d a i j=false) (e:j<=J) (f:i<=j):i < j:=by
 rcases val i j with h | h
 .exact h
 obtain rfl:i=j:=by omega
 unfold upE at b;unfold dnE at c;simp [e] at b;simp [b] at c
theorem zau (h off b7 a b u N:Nat) (d:Array (Int×Int)) (w:World) (hH:HoldsK qae 2 w h off d) (a8:h < w.heap.size) (hN:d.size=N) (h1:a<=u) (h2:u < b) (hb:b<=N) (c8:N<=1000000) :
 Calls prog 280 #[.slice (some ⟨h,off,none⟩) N b7,.int .i64 a,.int .i64 b,.int .i64 u,.func (.func 215) #[.agg #[]] #[]] w fun e w'=>e=.returned (.int .i64 (partitionEqual qaf d a b u).1)/\Srt w h off (partitionEqual qaf d a b u).2 w':=by
 have B:=Srt.refl hH a8;have HN:=hI hN;have k1:d.size<=N:=vby hN;have k2:N<=d.size:=vby hN.symm;clear hH hN;have i1:(a:Int) < (N:Int):=by omega
 have i2:(u:Int) < (N:Int):=by omega
 go_in;go_upto_region 1 with fail
 go_cut [] from 13 to 26 (fun U=>Srt w h off (swp (d) a u) U)
 case first =>
  by_cases b8:a=u
  .subst b8
   obtain ⟨x1,o⟩:∃ x,(d)[a]! = x:=⟨_,rfl⟩
   obtain ⟨F,z1,a2,z2⟩:=B.own (i:=a) jo;have m:=B.swap (i:=a) (j:=a) jo jo;rw [o] at F a2;rw [o] at m;clear o;have E:=hI m;clear m;go_wp2_with fail;go_region
   all_goals go_wp2_with fail
   go_meet;exact E.out
  skip
  obtain ⟨x1,o⟩:∃ x,(d)[a]! = x:=⟨_,rfl⟩
  obtain ⟨F,z1,a2,z2⟩:=B.own (i:=a) jo;have m:=B.swap (i:=a) (j:=u) jo jo;rw [o] at F a2;obtain ⟨x2,y⟩:∃ x,(d)[u]! = x:=⟨_,rfl⟩
  obtain ⟨a3,z3,a4,z4⟩:=B.own (i:=u) jo;rw [y] at a3 a4;rw [o,y] at m;clear o y;have E:=hI m;clear m;go_wp2_with fail;go_region
  all_goals go_wp2_with fail
  go_meet;exact E.out
 case rest =>
  clear B;have a5:Hid ((swp d a u).size=N):=by show _=_;rw [size_swp];exact HN.out
  have C:Hid (partitionEqual qaf d a b u=partEqLoop qaf a (a + 1) (b - 1) (swp d a u)):=rfl;generalize swp d a u=d1 at hcut C a5;obtain ⟨b1,w3,w4⟩:∃ n,n + 1<=b/\b<=n + 1:=⟨b - 1,by omega,by omega⟩
  obtain ⟨F,w5,w6⟩:∃ n,n<=a + 1/\a + 1<=n:=⟨_,vaa _,vaa _⟩
  have a7:b - 1=b1:=by omega
  have a6:a + 1=F:=by omega
  rw [a7,a6] at C;clear a7 a6;have s1:(b:Int) - 1=(b1:Int):=by omega
  have s2:(a:Int) + 1=(F:Int):=by omega
  go_wp2
  go_loopw [11,12] (fun vi vj wr=>∃ (G g:Nat) (c:Array (Int×Int)),vi=.int .i64 G/\vj=.int .i64 g/\a < G/\G<=g + 1/\g < b/\c.size=N/\Srt w h off c wr/\Hid (partEqLoop qaf a G g c=partEqLoop qaf a F b1 d1)) (fun vi vj _=>(intOf vj + 1 - intOf vi).toNat)
  case atStart=>exact ⟨F,b1,d1,rfl,rfl,by omega,by omega,by omega,a5.out,hcut,rfl⟩
  case round =>
   clear hcut;obtain ⟨G,g,c,rfl,rfl,c1,c2,c3,I,f,D⟩:=hrel;have b3:=hI I;have k5:c.size<=N:=vby I;have k6:N<=c.size:=vby I.symm;clear I;go_wp2
   go_loopw [11] (fun T wr=>∃ i:Nat,T=.int .i64 i/\(a < i/\G<=i)/\i<=g + 1/\Srt w h off c wr/\Hid (scanUp (fun x=>!qaf c[a]! x) c g i=scanUp (fun x=>!qaf c[a]! x) c g G)) (fun T _=>g + 1 - (intOf T).toNat)
   case atStart=>exact ⟨G,rfl,by omega,by omega,f,rfl⟩
   case round =>
    clear f;obtain ⟨i,rfl,b0,c4,f,K⟩:=hrel;go_upto_region 3 with fail
    go_cut [47] from 31 to 49 (fun s U=>s=.bool (upE c a g i)/\Srt w h off c U)
    case first =>
     by_cases hg:i<=g
     .have M:(i:Int)<=(g:Int):=by omega
      have c5:(i:Int) < (N:Int):=by omega
      obtain ⟨X,A⟩:∃ x,c[i]! = x:=⟨_,rfl⟩
      obtain ⟨V,z⟩:∃ x,c[a]! = x:=⟨_,rfl⟩
      have O:=fun p=>(f.cells (i:=i) jo p).1
      have P:=fun p=>(f.cells (i:=i) jo p).2
      have Q:=fun p=>(f.cells (i:=a) jo p).1
      have R:=fun p=>(f.cells (i:=a) jo p).2
      simp only [A] at O P;simp only [z] at Q R;have l:=fun W=>qdf V X W
      have r:=hI (qck V X);generalize cmpA V X=S at l r;have q:=hI l;clear l;have H:Hid (upE c a g i=(!decide (S < 0))):=by show _=_;unfold upE;rw [A,z,r.out];simp [hg]
      clear A z;by_cases hv:S < 0
      .skip
       go_wp2_with fail;refine wprX ?_
       repeat (go_big_quiet_step ((go_at_call 215;exact Calls.ext_of (q.out _))))
       refine wpQn fun w' k=>?_
       have v:=f.below k;clear k;clear O P Q R;go_wp2_with fail;go_meet;exact ⟨congrArg Value.bool (H.out.trans (by simp [hv])).symm,v⟩
      have c6:decide (S < 0)=false:=by simp;omega
      go_wp2_with fail;refine wprX ?_
      repeat (go_big_quiet_step ((go_at_call 215;exact Calls.ext_of (q.out _))))
      refine wpQn fun w' k=>?_
      have v:=f.below k;clear k;clear O P Q R;go_wp2_with fail;go_meet;exact ⟨congrArg Value.bool (H.out.trans (by simp [hv])).symm,v⟩
     have b9:decide (i<=g)=false:=by simp;omega
     have M:¬ (i:Int)<=(g:Int):=by omega
     have H:Hid (upE c a g i=false):=by show _=_;unfold upE;simp [hg]
     go_wp2_with fail;go_quiet (fail);go_wp2_with fail;go_meet;exact ⟨congrArg Value.bool H.out.symm,f.below (qaj (RowKit.Below.refl _ _) nq)⟩
    case rest =>
     clear f;obtain ⟨rfl,f⟩:=hcut;cases t:upE c a g i
     .have b5:=hI t
      have Y:Hid (i=scanUp (fun x=>!qaf c[a]! x) c g G):=by show _=_;rw [<-K.out];exact (qjg (p:=fun x=>!qaf c[a]! x) (d:=c) t).symm
      clear K t;go_wp2
      go_loopw [12] (fun T wr=>∃ j:Nat,T=.int .i64 j/\j<=g/\i<=j + 1/\Srt w h off c wr/\Hid (scanDown (fun x=>qaf c[a]! x) c i j=scanDown (fun x=>qaf c[a]! x) c i g)) (fun T _=>(intOf T).toNat)
      case atStart=>exact ⟨g,rfl,by omega,by omega,f,rfl⟩
      case round =>
       clear f;obtain ⟨j,rfl,b0,c4,f,K⟩:=hrel;go_upto_region 5 with fail
       go_cut [65] from 50 to 67 (fun s U=>s=.bool (dnE c a i j)/\Srt w h off c U)
       case first =>
        by_cases hg:i<=j
        .have M:(i:Int)<=(j:Int):=by omega
         have c5:(j:Int) < (N:Int):=by omega
         obtain ⟨X,A⟩:∃ x,c[j]! = x:=⟨_,rfl⟩
         obtain ⟨V,z⟩:∃ x,c[a]! = x:=⟨_,rfl⟩
         have O:=fun p=>(f.cells (i:=j) jo p).1
         have P:=fun p=>(f.cells (i:=j) jo p).2
         have Q:=fun p=>(f.cells (i:=a) jo p).1
         have R:=fun p=>(f.cells (i:=a) jo p).2
         simp only [A] at O P;simp only [z] at Q R;have l:=fun W=>qdf V X W
         have r:=hI (qck V X);generalize cmpA V X=S at l r;have q:=hI l;clear l;have H:Hid (dnE c a i j=(decide (S < 0))):=by show _=_;unfold dnE;rw [A,z,r.out];simp [hg]
         clear A z;by_cases hv:S < 0
         .skip
          go_wp2_with fail;refine wprX ?_
          repeat (go_big_quiet_step ((go_at_call 215;exact Calls.ext_of (q.out _))))
          refine wpQn fun w' k=>?_
          have v:=f.below k;clear k;clear O P Q R;go_wp2_with fail;go_meet;exact ⟨congrArg Value.bool (H.out.trans (by simp [hv])).symm,v⟩
         have c6:decide (S < 0)=false:=by simp;omega
         go_wp2_with fail;refine wprX ?_
         repeat (go_big_quiet_step ((go_at_call 215;exact Calls.ext_of (q.out _))))
         refine wpQn fun w' k=>?_
         have v:=f.below k;clear k;clear O P Q R;go_wp2_with fail;go_meet;exact ⟨congrArg Value.bool (H.out.trans (by simp [hv])).symm,v⟩
        have b9:decide (i<=j)=false:=by simp;omega
        have M:¬ (i:Int)<=(j:Int):=by omega
        have H:Hid (dnE c a i j=false):=by show _=_;unfold dnE;simp [hg]
        go_wp2_with fail;go_quiet (fail);go_wp2_with fail;go_meet;exact ⟨congrArg Value.bool H.out.symm,f.below (qaj (RowKit.Below.refl _ _) nq)⟩
       case rest =>
        clear f;obtain ⟨rfl,f⟩:=hcut;cases t:dnE c a i j
        .have b6:=hI t
         have Z:Hid (j=scanDown (fun x=>qaf c[a]! x) c i g):=by show _=_;rw [<-K.out];exact (qhl (p:=fun x=>qaf c[a]! x) (d:=c) t).symm
         clear K t;by_cases a9:j < i
         .have hz:(j:Int) < (i:Int):=by omega
          have J:Hid (partitionEqual qaf d a b u=(i,c)):=by
           show _=_;rw [C.out,<-D.out,partEqLoop_eq,<-Y.out,<-Z.out,vam a9]
          go_wp2;go_ret;exact ⟨qag (by rw [J.out]),by rw [J.out];exact f⟩
         have hz:¬ (j:Int) < (i:Int):=by omega
         have c9:decide (j < i)=false:=by simp;omega
         have c7:i < j:=up_dnE b5.out b6.out b0 jo;have a0:Hid (partEqLoop qaf a (i + 1) (j - 1) (swp c i j)=partEqLoop qaf a F b1 d1):=by
          show _=_;rw [<-D.out,partEqLoop_eq qaf a G g c,<-Y.out,<-Z.out,vao a9]
         go_upto_region 8 with fail
         go_cut [] from 31 to 88 (fun U=>Srt w h off (swp (c) i j) U)
         case first =>
          obtain ⟨x1,o⟩:∃ x,(c)[i]! = x:=⟨_,rfl⟩
          obtain ⟨F,z1,a2,z2⟩:=f.own (i:=i) jo;have m:=f.swap (i:=i) (j:=j) jo jo;rw [o] at F a2;obtain ⟨x2,y⟩:∃ x,(c)[j]! = x:=⟨_,rfl⟩
          obtain ⟨a3,z3,a4,z4⟩:=f.own (i:=j) jo;rw [y] at a3 a4;rw [o,y] at m;clear o y;have E:=hI m;clear m;go_wp2_with fail;go_region
          all_goals go_wp2_with fail
          go_meet;exact E.out
         case rest =>
          obtain ⟨j0,w1,w2⟩:∃ n,n + 1<=j/\j<=n + 1:=⟨j - 1,by omega,by omega⟩
          have s9:(j:Int) - 1=(j0:Int):=by omega
          have b2:Hid (j - 1=j0):=by show _=_;omega
          rw [b2.out] at a0;clear f;go_wp2;exact ⟨⟨i + 1,j0,swp c i j,by go_num,rfl,by omega,by omega,by omega,by rw [size_swp];exact b3.out,hcut,a0⟩,by simp [intOf];omega⟩
        have c0:i<=j:=by unfold dnE at t;simp at t;exact t.1
        obtain ⟨j0,w1,w2⟩:∃ n,n + 1<=j/\j<=n + 1:=⟨j - 1,by omega,by omega⟩
        have s9:(j:Int) - 1=(j0:Int):=by omega
        have L:Hid (scanDown (fun x=>qaf c[a]! x) c i j0=scanDown (fun x=>qaf c[a]! x) c i g):=by show _=_;rw [<-K.out];exact (qjh (p:=fun x=>qaf c[a]! x) (d:=c) jo t).symm
        have b4:=hI t;go_wp2;exact ⟨⟨j0,rfl,by omega,by omega,f,L⟩,by simp [intOf];omega⟩
     have c0:i<=g:=by unfold upE at t;simp at t;exact t.1
     have L:Hid (scanUp (fun x=>!qaf c[a]! x) c g (i + 1)=scanUp (fun x=>!qaf c[a]! x) c g G):=by show _=_;rw [<-K.out];exact (qni (p:=fun x=>!qaf c[a]! x) (d:=c) t).symm
     have b4:=hI t;go_wp2;exact ⟨⟨i + 1,by go_num,by omega,by omega,f,L⟩,by simp [intOf];omega⟩
def FindR (d:Array EN) (n:Int) (r:EN×Bool):Prop:=(∃ k,k < d.size/\r=(d[k]!,true)/\d[k]!.id=n/\∀ j,j < k->d[j]!.id≠n)\/(r=(default,false)/\∀ j,j < d.size->d[j]!.id≠n)
def FindQ (d:Array EN) (n:Int) (e:Ending):Prop:=∃ r:EN×Bool,e=.returned (.tuple #[.agg (encE r.1).toArray,.bool r.2])/\FindR d n r
theorem FindR.uniq {d:Array EN} {n:Int} {r s:EN×Bool} (h:FindR d n r) (g:FindR d n s):r=s:=by
 rcases h with ⟨k,j,c,a,f⟩ | ⟨c,a⟩ <;> rcases g with ⟨m,l,e,b,i⟩ | ⟨e,b⟩
 .have:k=m:=by
   rcases vfc k m with h | h | h
   .exact absurd a (i k h)
   .exact h
   exact absurd b (f m h)
  rw [c,e,this]
 .exact absurd a (b k j)
 .exact absurd b (a m l)
 rw [c,e]
theorem RdE.default (w:World):RdE w default:=⟨fun h=>absurd h jd,vaa _,by decide,by decide⟩
theorem FindR.rd {w:World} {A:Option Addr} {d:Array EN} {n:Int} {r:EN×Bool} (h:FindR d n r) (g:RdT w A d):RdE w r.1:=by
 rcases h with ⟨k,b,a,_⟩ | ⟨a,_⟩
 .rw [a];exact g.el k b
 rw [a];exact RdE.default w
theorem blkC {W:World} {g:Nat} {cs:Array Value} {T:TypeId} (h:W.heap[g]?=some (.cells cs T (0,0))) (j:Nat):W.cell? ⟨g,j,none⟩=cs[j]?:=by rw [vas W _ j _ _ (0,0) h]
theorem blkF {W:World} {g:Nat} {cs:Array Value} {T:TypeId} (h:W.heap[g]?=some (.cells cs T (0,0))) (j:Nat):W.frozen? ⟨g,j,none⟩=false:=by simp [World.frozen?,h]
theorem blkL {W:World} {g:Nat} {o:Obj} (h:W.heap[g]?=some o):g < W.heap.size:=by
 rcases val g W.heap.size with a | a
 .exact a
 rw [vbn a] at h;cases h
