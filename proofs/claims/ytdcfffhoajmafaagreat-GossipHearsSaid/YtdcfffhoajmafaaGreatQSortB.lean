/- Texts that the law leans on. -/
import Derived.Test.YtdcfffhoajmafaaGreatQRangesE
set_option maxRecDepth 100000
set_option maxHeartbeats 8000000
namespace Go.Proofs.YtdcfffhoajmafaaGreat
open Go.RowKit Go.Sort Go.Lib Go.Proofs.Tryz
section
variable {α:Type} [Inhabited α] {lt:α->α->Bool} {hi first root:Nat} {d:Array α}
theorem sift_stop (h:hi<=2 * root + 1):siftDown lt hi first root d=d:=by rw [siftDown];simp [h]
theorem qvh (c:2 * root + 2 < hi) (a:lt d[first + (2 * root + 1)]! d[first + (2 * root + 2)]! = true) (b:lt d[first + root]! d[first + (2 * root + 2)]! = false):siftDown lt hi first root d=d:=by
 rw [siftDown,dif_neg jo,vam (by rw [vdl first,a];simp;omega),vam (by rw [b];rfl)]
theorem sift_R_go (a:2 * root + 2 < hi) (b:lt d[first + (2 * root + 1)]! d[first + (2 * root + 2)]! = true) (c:lt d[first + root]! d[first + (2 * root + 2)]! = true):siftDown lt hi first root d=siftDown lt hi first (2 * root + 2) (swp d (first + root) (first + (2 * root + 2))):=by
 rw [siftDown,dif_neg jo,vam (by rw [vdl first,b];simp;omega),vao (by rw [c];simp),dif_pos a]
theorem qng (c:2 * root + 1 < hi) (a:hi<=2 * root + 2\/lt d[first + (2 * root + 1)]! d[first + (2 * root + 2)]! = false) (b:lt d[first + root]! d[first + (2 * root + 1)]! = false):siftDown lt hi first root d=d:=by
 rw [siftDown,dif_neg jo,vao ?_,vam (by rw [b];rfl)];rcases a with a | a
 .simp;omega
 rw [vdl first,a];simp
theorem qsr (c:2 * root + 1 < hi) (a:hi<=2 * root + 2\/lt d[first + (2 * root + 1)]! d[first + (2 * root + 2)]! = false) (b:lt d[first + root]! d[first + (2 * root + 1)]! = true):siftDown lt hi first root d=siftDown lt hi first (2 * root + 1) (swp d (first + root) (first + (2 * root + 1))):=by
 rw [siftDown,dif_neg jo,vao ?_,vao (by rw [b];simp)];rcases a with a | a
 .simp;omega
 rw [vdl first,a];simp
end
theorem sift_any (blk off b2 lo hi first:Nat) (d:Array (Int×Int)) (w:World) (hH:HoldsK qae 2 w blk off d) (a0:blk < w.heap.size) (b3:lo<=d.size) (hb:first + hi<=d.size) (d5:d.size<=1000000) :
 Calls prog 300 #[.slice (some ⟨blk,off,none⟩) d.size b2,.int .i64 lo,.int .i64 hi,.int .i64 first,.func (.func 215) #[.agg #[]] #[]] w fun e L=>e=.returned (.tuple #[])/\Srt w blk off (siftDown qaf hi first lo d) L:=by
 have b1:=hI (Srt.refl hH a0);clear hH;go_in;go_wp2
 go_loopw [10] (fun vr wr=>∃ (root:Nat) (y:Array (Int×Int)),vr=.int .i64 root/\root<=d.size/\y.size=d.size/\Srt w blk off y wr/\Hid (siftDown qaf hi first root y=siftDown qaf hi first lo d)) (fun vr _=>hi - (intOf vr).toNat)
 case atStart=>exact ⟨lo,d,rfl,b3,rfl,b1.out,rfl⟩
 case round =>
  obtain ⟨root,y,rfl,d4,K,P,S⟩:=hrel;have d0:y.size<=d.size:=vby K;have d3:d.size<=y.size:=vby K.symm;have T:=hI K;clear K;by_cases h1:hi<=2 * root + 1
  .have c7:(hi:Int)<=2 * (root:Int) + 1:=by omega
   go_wp2;go_end0;exact ⟨rfl,by rw [<-S.out,sift_stop h1];exact P⟩
  obtain ⟨A,c1,c2⟩:∃ A,A<=2 * root + 1/\2 * root + 1<=A:=⟨_,vaa _,vaa _⟩
  obtain ⟨r,r1,r2⟩:∃ r,r<=first + root/\first + root<=r:=⟨_,vaa _,vaa _⟩
  obtain ⟨o,f1,f2⟩:∃ o,o<=first + A/\first + A<=o:=⟨_,vaa _,vaa _⟩
  have a5:Hid (A=2 * root + 1):=by show _=_;omega
  have B:Hid (r=first + root):=by show _=_;omega
  have z:Hid (o=first + (2 * root + 1)):=by show _=_;omega
  have e1:2 * (root:Int) + 1=(A:Int):=by omega
  have e2:(first:Int) + (A:Int)=(o:Int):=by omega
  have b7:IntKind.i64.wrap ((first:Int) + (A:Int))=(o:Int):=by rw [vbc];omega
  have e3:(first:Int) + (root:Int)=(r:Int):=by omega
  have b8:IntKind.i64.wrap ((first:Int) + (root:Int))=(r:Int):=by rw [vbc];omega
  have b5:¬ (hi:Int)<=(A:Int):=by omega
  have b4:decide ((hi:Int)<=(A:Int))=false:=by simp;omega
  have i1:(r:Int) < (d.size:Int):=by omega
  have i2:(o:Int) < (d.size:Int):=by omega
  obtain ⟨N,b0⟩:∃ x,y[r]! = x:=⟨_,rfl⟩
  obtain ⟨M,a9⟩:∃ x,y[o]! = x:=⟨_,rfl⟩
  have m:=hI b0;have l:=hI a9;clear b0 a9;obtain ⟨s,d1,d2⟩:∃ c,c<=A + 1/\A + 1<=c:=⟨_,vaa _,vaa _⟩
  obtain ⟨g,g1,g2⟩:∃ c,c<=o + 1/\o + 1<=c:=⟨_,vaa _,vaa _⟩
  have a6:Hid (s=2 * root + 2):=by show _=_;omega
  have t:Hid (g=first + (2 * root + 2)):=by show _=_;omega
  have e4:(A:Int) + 1=(s:Int):=by omega
  have b9:IntKind.i64.wrap ((A:Int) + 1)=(s:Int):=by rw [vbc];omega
  have e5:(o:Int) + 1=(g:Int):=by omega
  have c0:IntKind.i64.wrap ((o:Int) + 1)=(g:Int):=by rw [vbc];omega
  have e6:(first:Int) + (s:Int)=(g:Int):=by omega
  have c3:IntKind.i64.wrap ((first:Int) + (s:Int))=(g:Int):=by rw [vbc];omega
  have c4:IntKind.i64.wrap (s:Int)=(s:Int):=by rw [vbc];omega
  have c5:IntKind.i64.wrap (g:Int)=(g:Int):=by rw [vbc];omega
  have c6:IntKind.i64.wrap (o:Int)=(o:Int):=by rw [vbc];omega
  by_cases h2:A + 1 < hi
  .have c9:(s:Int) < (hi:Int):=by omega
   obtain ⟨U,a8⟩:∃ x,y[g]! = x:=⟨_,rfl⟩
   have u:=hI a8;clear a8;have i3:(g:Int) < (d.size:Int):=by omega
   have E:=fun p=>(P.cells (i:=o) jo p).1
   have F:=fun p=>(P.cells (i:=o) jo p).2
   simp only [l.out] at E F;have G:=fun p=>(P.cells (i:=g) jo p).1
   have H:=fun p=>(P.cells (i:=g) jo p).2
   simp only [u.out] at G H;have J:=fun W=>qdf M U W
   have C:=hI (qck M U);generalize cmpA M U=v1 at J C;have O:=hI J;clear J;by_cases d6:v1 < 0
   .go_wp2_with fail
    refine wprX ?_
    repeat (go_big_quiet_step ((go_at_call 215;exact Calls.ext_of (O.out _))))
    refine wpQn fun L a=>?_
    have b:=P.below a;clear a;clear E F G H;have E:=fun p=>(b.cells (i:=r) jo p).1
    have F:=fun p=>(b.cells (i:=r) jo p).2
    simp only [m.out] at E F;have G:=fun p=>(b.cells (i:=g) jo p).1
    have H:=fun p=>(b.cells (i:=g) jo p).2
    simp only [u.out] at G H;have k:=fun W=>qdf N U W
    have f:=hI (qck N U);generalize cmpA N U=R at k f;have q:=hI k;clear k;by_cases a7:R < 0
    .have n:Hid (siftDown qaf hi first s (swp y r g)=siftDown qaf hi first lo d):=by
      show _=_;rw [<-S.out,a6.out,B.out,t.out];exact (sift_R_go jo (by rw [<-z.out,<-t.out,l.out,u.out,C.out];simp;omega) (by rw [<-B.out,<-t.out,m.out,u.out,f.out];simp;omega)).symm
     go_wp2_with fail;refine wprX ?_
     repeat (go_big_quiet_step ((go_at_call 215;exact Calls.ext_of (q.out _))))
     refine wpQn fun L a=>?_
     have h:=b.below a;clear a;clear E F G H;obtain ⟨V,z1,X,z2⟩:=h.own (i:=r) jo;obtain ⟨Y,z3,Z,z4⟩:=h.own (i:=g) jo;rw [m.out] at V X;rw [u.out] at Y Z;go_wp2_with fail;go_region
     all_goals go_wp2
     have D:=h.swap (i:=r) (j:=g) jo jo;rw [m.out,u.out] at D;exact ⟨⟨s,swp y r g,rfl,by omega,by rw [size_swp];exact T.out,D,n⟩,by simp [intOf];omega⟩
    have Q:decide (R < 0)=false:=by simp;omega
    have n:siftDown qaf hi first root y=y:=qvh jo (by rw [<-z.out,<-t.out,l.out,u.out,C.out];simp;omega) (by rw [<-B.out,<-t.out,m.out,u.out,f.out];simp;omega);have I:=hI n;clear n;go_wp2_with fail;refine wprX ?_
    repeat (go_big_quiet_step ((go_at_call 215;exact Calls.ext_of (q.out _))))
    refine wpQn fun L a=>?_
    have h:=b.below a;clear a;go_wp2;exact vau (v:=.tuple #[]) (qdb rfl _ _ _) rfl ⟨rfl,by rw [<-S.out,I.out];exact h⟩
   have b6:decide (v1 < 0)=false:=by simp;omega
   go_wp2_with fail;refine wprX ?_
   repeat (go_big_quiet_step ((go_at_call 215;exact Calls.ext_of (O.out _))))
   refine wpQn fun L a=>?_
   have b:=P.below a;clear a;clear E F G H;have E:=fun p=>(b.cells (i:=r) jo p).1
   have F:=fun p=>(b.cells (i:=r) jo p).2
   simp only [m.out] at E F;have G:=fun p=>(b.cells (i:=o) jo p).1
   have H:=fun p=>(b.cells (i:=o) jo p).2
   simp only [l.out] at G H;have k:=fun W=>qdf N M W
   have f:=hI (qck N M);generalize cmpA N M=R at k f;have q:=hI k;clear k;by_cases a7:R < 0
   .have n:Hid (siftDown qaf hi first A (swp y r o)=siftDown qaf hi first lo d):=by
     show _=_;rw [<-S.out,a5.out,B.out,z.out];exact (qsr jo (Or.inr (by rw [<-z.out,<-t.out,l.out,u.out,C.out];simp;omega)) (by rw [<-B.out,<-z.out,m.out,l.out,f.out];simp;omega)).symm
    go_wp2_with fail;refine wprX ?_
    repeat (go_big_quiet_step ((go_at_call 215;exact Calls.ext_of (q.out _))))
    refine wpQn fun L a=>?_
    have h:=b.below a;clear a;clear E F G H;obtain ⟨V,z1,X,z2⟩:=h.own (i:=r) jo;obtain ⟨Y,z3,Z,z4⟩:=h.own (i:=o) jo;rw [m.out] at V X;rw [l.out] at Y Z;go_wp2_with fail;go_region
    all_goals go_wp2
    have D:=h.swap (i:=r) (j:=o) jo jo;rw [m.out,l.out] at D;exact ⟨⟨A,swp y r o,rfl,by omega,by rw [size_swp];exact T.out,D,n⟩,by simp [intOf];omega⟩
   have Q:decide (R < 0)=false:=by simp;omega
   have n:siftDown qaf hi first root y=y:=qng jo (Or.inr (by rw [<-z.out,<-t.out,l.out,u.out,C.out];simp;omega)) (by rw [<-B.out,<-z.out,m.out,l.out,f.out];simp;omega);have I:=hI n;clear n;go_wp2_with fail;refine wprX ?_
   repeat (go_big_quiet_step ((go_at_call 215;exact Calls.ext_of (q.out _))))
   refine wpQn fun L a=>?_
   have h:=b.below a;clear a;go_wp2;exact vau (v:=.tuple #[]) (qdb rfl _ _ _) rfl ⟨rfl,by rw [<-S.out,I.out];exact h⟩
  have c8:decide (s < hi)=false:=by simp;omega
  go_wp2_with fail;go_quiet (fail);have b:=P.below (qaj (RowKit.Below.refl _ _) nq);have E:=fun p=>(b.cells (i:=r) jo p).1
  have F:=fun p=>(b.cells (i:=r) jo p).2
  simp only [m.out] at E F;have G:=fun p=>(b.cells (i:=o) jo p).1
  have H:=fun p=>(b.cells (i:=o) jo p).2
  simp only [l.out] at G H;have k:=fun W=>qdf N M W
  have f:=hI (qck N M);generalize cmpA N M=R at k f;have q:=hI k;clear k;by_cases a7:R < 0
  .have n:Hid (siftDown qaf hi first A (swp y r o)=siftDown qaf hi first lo d):=by
    show _=_;rw [<-S.out,a5.out,B.out,z.out];exact (qsr jo (Or.inl jo) (by rw [<-B.out,<-z.out,m.out,l.out,f.out];simp;omega)).symm
   go_wp2_with fail;refine wprX ?_
   repeat (go_big_quiet_step ((go_at_call 215;exact Calls.ext_of (q.out _))))
   refine wpQn fun L a=>?_
   have h:=b.below a;clear a;clear E F G H;obtain ⟨V,z1,X,z2⟩:=h.own (i:=r) jo;obtain ⟨Y,z3,Z,z4⟩:=h.own (i:=o) jo;rw [m.out] at V X;rw [l.out] at Y Z;go_wp2_with fail;go_region
   all_goals go_wp2
   have D:=h.swap (i:=r) (j:=o) jo jo;rw [m.out,l.out] at D;exact ⟨⟨A,swp y r o,rfl,by omega,by rw [size_swp];exact T.out,D,n⟩,by simp [intOf];omega⟩
  have Q:decide (R < 0)=false:=by simp;omega
  have n:siftDown qaf hi first root y=y:=qng jo (Or.inl jo) (by rw [<-B.out,<-z.out,m.out,l.out,f.out];simp;omega);have I:=hI n;clear n;go_wp2_with fail;refine wprX ?_
  repeat (go_big_quiet_step ((go_at_call 215;exact Calls.ext_of (q.out _))))
  refine wpQn fun L a=>?_
  have h:=b.below a;clear a;go_wp2;exact vau (v:=.tuple #[]) (qdb rfl _ _ _) rfl ⟨rfl,by rw [<-S.out,I.out];exact h⟩
theorem sift_N (blk off a lo hi first N:Nat) (d:Array (Int×Int)) (w:World) (g:HoldsK qae 2 w blk off d) (b:blk < w.heap.size) (h:d.size=N) (c:lo<=N) (i:first + hi<=N) (f:N<=1000000) :
 Calls prog 300 #[.slice (some ⟨blk,off,none⟩) N a,.int .i64 lo,.int .i64 hi,.int .i64 first,.func (.func 215) #[.agg #[]] #[]] w fun e j=>e=.returned (.tuple #[])/\Srt w blk off (siftDown qaf hi first lo d) j:=by
 subst h;exact sift_any blk off a lo hi first d w g b c i f
theorem qnh (lt:Int×Int->Int×Int->Bool) (hi first root:Nat) (d:Array (Int×Int)):(siftDown lt hi first root d).size=d.size:=by
 fun_induction siftDown lt hi first root d <;> simp_all [swp]
theorem heap_any (blk off y a b N:Nat) (d:Array (Int×Int)) (w:World) (V:HoldsK qae 2 w blk off d) (I:blk < w.heap.size) (X:d.size=N) (a5:a < b) (hb:b<=N) (B:N<=1000000) :
 Calls prog 275 #[.slice (some ⟨blk,off,none⟩) N y,.int .i64 a,.int .i64 b,.func (.func 215) #[.agg #[]] #[]] w fun e w'=>e=.returned (.tuple #[])/\Srt w blk off (heapSort qaf d a b) w':=by
 have L:=hI (Srt.refl V I);have HN:=hI X;clear V X;obtain ⟨n,n1,n2⟩:∃ n,n<=b - a/\b - a<=n:=⟨_,vaa _,vaa _⟩
 obtain ⟨m,m1,m2⟩:∃ m,m<=(n - 1) / 2/\(n - 1) / 2<=m:=⟨_,vaa _,vaa _⟩
 have HD:Hid (heapSort qaf d a b=heapPop qaf a n (heapBuild qaf n a (m + 1) d)):=by
  show _=_;have e1:n=b - a:=by omega
  have e2:m=(b - a - 1) / 2:=by omega
  rw [e1,e2];rfl
 have s1:(b:Int) - (a:Int)=(n:Int):=by omega
 have S2:Hid (((n:Int) - 1) / 2=(m:Int)):=by show _=_;omega
 go_in;go_wp2
 go_loopw [11] (fun D wr=>∃ (k:Nat) (f:Array (Int×Int)),D=.int .i64 ((k:Int) - 1)/\k<=m + 1/\f.size=N/\Srt w blk off f wr/\Hid (heapBuild qaf n a k f=heapBuild qaf n a (m + 1) d)) (fun D _=>(intOf D + 1).toNat)
 case atStart=>exact ⟨m + 1,d,by congr 1;have:=S2.out;omega,vaa _,HN.out,L.out,rfl⟩
 case round =>
  obtain ⟨k,f,rfl,Y,o,s,A⟩:=hrel;have g:=hI o;clear o;cases k with
  | zero =>
    have G:(((0:Nat):Int) - 1) = -1:=rfl;rw [G];clear G;have K:Hid (f=heapBuild qaf n a (m + 1) d):=A.out;obtain ⟨Q,j1,j2⟩:∃ Q,Q + 1<=n/\n<=Q + 1:=⟨n - 1,by omega,by omega⟩
    go_wp2
    go_loopw [12] (fun D wr=>∃ (k:Nat) (M:Array (Int×Int)),D=.int .i64 ((k:Int) - 1)/\k<=n/\M.size=N/\Srt w blk off M wr/\Hid (heapPop qaf a k M=heapSort qaf d a b)) (fun D _=>(intOf D + 1).toNat)
    case atStart=>exact ⟨n,f,rfl,vaa _,g.out,s,by show _=_;rw [HD.out,K.out]⟩
    case round =>
     clear s A g Y;obtain ⟨k,f,rfl,Y,o,s,A⟩:=hrel;have g:=hI o;have k1:f.size<=N:=vby o;have k2:N<=f.size:=vby o.symm;clear o;cases k with
     | zero =>
       have G:(((0:Nat):Int) - 1) = -1:=rfl;rw [G];clear G;go_wp2;go_end0;exact ⟨rfl,by rw [<-A.out];exact s⟩
     | succ k =>
       have H:(((k + 1:Nat):Int) - 1)=(k:Int):=by omega
       rw [H];clear H;rcases vba k with J | J
       .subst J
        have O:IntKind.i64.wrap (a:Int)=(a:Int):=by rw [vbc];omega
        have i1:(a:Int) < (N:Int):=by omega
        obtain ⟨x1,q⟩:∃ x,f[a]! = x:=⟨_,rfl⟩
        obtain ⟨E,R,F,S⟩:=s.own (i:=a) jo;have p:=s.swap (i:=a) (j:=a) jo jo;rw [q] at E F;rw [q] at p;have u:=hI p;clear q p;have t:Hid (heapPop qaf a 0 (siftDown qaf 0 a 0 (swp f a a))=heapSort qaf d a b):=by show _=_;rw [<-A.out];rfl
        go_wp2_with fail;go_region
        all_goals go_wp2_with fail
        have h:Srt w blk off (swp f a a) _:=u.out;have z:=hI (sift_N blk off y 0 0 a N (swp f a a) _ h.holds h.lt1 (by rw [size_swp];exact g.out) jo jo B);refine z.out.mono ?_;rintro e Z ⟨rfl,l⟩;have v:=h.trans l;clear l h z u E F R S;go_wp2;exact ⟨⟨0,_,rfl,by omega,by rw [qnh,size_swp];exact g.out,v,t⟩,by simp [intOf]⟩
       skip
       obtain ⟨r,q1,q2⟩:∃ c,c<=a + k/\a + k<=c:=⟨_,vaa _,vaa _⟩
       have P:Hid (r=a + k):=by show _=_;omega
       have e3:(a:Int) + (k:Int)=(r:Int):=by omega
       have O:IntKind.i64.wrap ((a:Int) + (k:Int))=(r:Int):=by rw [vbc];omega
       have a0:IntKind.i64.wrap (r:Int)=(r:Int):=by rw [vbc];omega
       have i1:(a:Int) < (N:Int):=by omega
       have i2:(r:Int) < (N:Int):=by omega
       obtain ⟨x1,q⟩:∃ x,f[a]! = x:=⟨_,rfl⟩
       obtain ⟨x2,C⟩:∃ x,f[r]! = x:=⟨_,rfl⟩
       obtain ⟨E,R,F,S⟩:=s.own (i:=a) jo;obtain ⟨T,z3,U,z4⟩:=s.own (i:=r) jo;have p:=s.swap (i:=a) (j:=r) jo jo;rw [q] at E F;rw [C] at T U;rw [q,C] at p;have u:=hI p;clear q C p;have k0:(0:Int)<=(k:Int):=by omega
       have t:Hid (heapPop qaf a k (siftDown qaf k a 0 (swp f a r))=heapSort qaf d a b):=by show _=_;rw [<-A.out,P.out];rfl
       go_wp2_with fail;go_region
       all_goals go_wp2_with fail
       have h:Srt w blk off (swp f a r) _:=u.out;have z:=hI (sift_N blk off y 0 k a N (swp f a r) _ h.holds h.lt1 (by rw [size_swp];exact g.out) jo jo B);refine z.out.mono ?_;rintro e Z ⟨rfl,l⟩;have v:=h.trans l;clear l h z u E F T U R S z3 z4;go_wp2;exact ⟨⟨k,_,rfl,by omega,by rw [qnh,size_swp];exact g.out,v,t⟩,by simp [intOf]⟩
  | succ k =>
    have H:(((k + 1:Nat):Int) - 1)=(k:Int):=by omega
    rw [H];clear H;have k0:(0:Int)<=(k:Int):=by omega
    have z:=hI (sift_N blk off y k n a N f _ s.holds s.lt1 g.out jo jo B);go_wp2_with fail;refine z.out.mono ?_;rintro e Z ⟨rfl,l⟩;have v:=s.trans l;clear l z;have t:Hid (heapBuild qaf n a k (siftDown qaf n a k f)=heapBuild qaf n a (m + 1) d):=A.out;go_wp2;exact ⟨⟨k,_,rfl,by omega,by rw [qnh];exact g.out,v,t⟩,by simp [intOf]⟩
theorem rev_any (blk off r a b N:Nat) (d:Array (Int×Int)) (w:World) (z:HoldsK qae 2 w blk off d) (l:blk < w.heap.size) (A:d.size=N) (J:a < b) (S:b<=N) (L:N<=1000000) :
 Calls prog 278 #[.slice (some ⟨blk,off,none⟩) N r,.int .i64 a,.int .i64 b,.func (.func 215) #[.agg #[]] #[]] w fun e Q=>e=.returned (.tuple #[])/\∃ y,PermIn a b d y/\Srt w blk off y Q:=by
 have p:=hI (Srt.refl z l);have C:=hI A;clear z A;obtain ⟨v,n1,Y⟩:∃ n,n + 1<=b/\b<=n + 1:=⟨b - 1,by omega,by omega⟩
 have s1:(b:Int) - 1=(v:Int):=by omega
 go_in;go_wp2
 go_loopw [8,9] (fun P t wr=>∃ (i j:Nat) (c:Array (Int×Int)),P=.int .i64 i/\t=.int .i64 j/\a<=i/\i<=b/\j < b/\PermIn a b d c/\Srt w blk off c wr) (fun _ t _=>(intOf t).toNat)
 case atStart=>exact ⟨a,v,d,rfl,rfl,vaa _,by omega,by omega,permIn_refl _ _ _,p.out⟩
 case round =>
  obtain ⟨i,j,c,rfl,rfl,H,R,I,s,m⟩:=hrel;have f:c.size=N:=s.1.trans C.out;have V:c.size<=N:=vby f;have X:N<=c.size:=vby f.symm;have u:=hI s;clear s f;by_cases K:i < j
  .have M:(i:Int) < (j:Int):=by omega
   have T:(i:Int) < (N:Int):=by omega
   have U:(j:Int) < (N:Int):=by omega
   obtain ⟨x1,h⟩:∃ x,c[i]! = x:=⟨_,rfl⟩
   obtain ⟨x2,k⟩:∃ x,c[j]! = x:=⟨_,rfl⟩
   obtain ⟨D,z1,E,z2⟩:=m.own (i:=i) jo;obtain ⟨F,z3,G,z4⟩:=m.own (i:=j) jo;have g:=m.swap (i:=i) (j:=j) jo jo;rw [h] at D E;rw [k] at F G;rw [h,k] at g;have q:=hI g;have o:=hI (permIn_trans _ _ _ _ _ u.out (swp_permIn c a b i j H jo jo I jo));clear h k g;obtain ⟨B,Z,q2⟩:∃ n,n + 1<=j/\j<=n + 1:=⟨j - 1,by omega,by omega⟩
   have s2:(j:Int) - 1=(B:Int):=by omega
   go_wp2_with fail;go_region
   all_goals go_wp2
   exact ⟨⟨i + 1,B,swp c i j,by go_num,rfl,by omega,by omega,by omega,o.out,q.out⟩,by simp [intOf];omega⟩
  have M:decide (i < j)=false:=by simp;omega
  have O:¬ (i:Int) < (j:Int):=by omega
  go_wp2;go_end0;exact ⟨rfl,c,u.out,m⟩
structure Cnt (w:World) (sb:Nat) (w':World):Prop where
 cell:∃ s:Int,w'.heap[sb]?=some (.cells #[.int .i64 s] 3 (0,0))
 lt:sb < w.heap.size
 size:w.heap.size<=w'.heap.size
 block:∀ g,g < w.heap.size->g≠sb->w'.heap[g]?=w.heap[g]?
 os:w'.os=w.os
 tape:w'.tape=w.tape
 output:w'.output=w.output
section
variable {w w1 w2:World} {sb blk off:Nat} {d:Array (Int×Int)}
theorem Cnt.trans (h:Cnt w sb w1) (k:Cnt w1 sb w2):Cnt w sb w2 :=
 ⟨k.cell,h.lt,vax h.size k.size,fun g b a=>(k.block g (vad b h.size) a).trans (h.block g b a),k.os.trans h.os,k.tape.trans h.tape,k.output.trans h.output⟩
theorem Cnt.holds (h:Cnt w sb w1) (c:HoldsK qae 2 w blk off d) (e:blk < w.heap.size) (b:blk≠sb):HoldsK qae 2 w1 blk off d:=fun t f =>
 ⟨(vdf (a:=⟨blk,off + t,none⟩) (h.block blk e b)).trans (c t f).1,(World.frozen?_of_block (a:=⟨blk,off + t,none⟩) (h.block blk e b)).trans (c t f).2⟩
theorem Cnt.below (a:RowKit.Below w.heap.size w w1) (b:sb < w.heap.size) (c:∃ s:Int,w.heap[sb]?=some (.cells #[.int .i64 s] 3 (0,0))):Cnt w sb w1 :=
 ⟨by obtain ⟨s,e⟩:=c;exact ⟨s,(a.block sb b).trans e⟩,b,a.size,fun g d _=>a.block g d,a.os,a.tape,a.output⟩
theorem Cnt.set {s:Int} (h:Cnt w sb w1) (b:∃ t:Int,w1.heap[sb]?=some (.cells #[.int .i64 t] 3 (0,0))):Cnt w sb (w1.setCell ⟨sb,0,none⟩ (.int .i64 s)) :=
 ⟨by obtain ⟨t,d⟩:=b;exact ⟨s,by simp [World.setCell,Array.getElem?_modify,d]⟩,h.lt,by simpa [World.setCell] using h.size,fun g c a=>(RowKit.Below.heap_setCell _ _ _ _ a).trans (h.block g c a),h.os,h.tape,h.output⟩
end
theorem qqp {W:World} {B:Nat} {v:Value} {t:TypeId} (h:W.heap[B]?=some (.cells #[v] t (0,0))):W.cell? ⟨B,0,none⟩=some v/\W.frozen? ⟨B,0,none⟩=false:=by
 simp [World.cell?,World.frozen?,h]
theorem qvi (blk off u a b sb N:Nat) (d:Array (Int×Int)) (w:World) (I:HoldsK qae 2 w blk off d) (l:blk < w.heap.size) (z:d.size=N) (P:a < N) (Q:b < N) (n:sb < w.heap.size) (m:∃ s:Int,w.heap[sb]?=some (.cells #[.int .i64 s] 3 (0,0))) :
 Calls prog 319 #[.slice (some ⟨blk,off,none⟩) N u,.int .i64 a,.int .i64 b,.pointer (some ⟨sb,0,none⟩),.func (.func 215) #[.agg #[]] #[]] w fun e F=>∃ x y:Nat,e=.returned (.tuple #[.int .i64 x,.int .i64 y])/\((x=a/\y=b)\/(x=b/\y=a))/\Cnt w sb F:=by
 have j:=Srt.refl I l;have L:=hI z;have U:N<=d.size:=vby z.symm;clear I z;obtain ⟨G,o⟩:∃ x,d[b]! = x:=⟨_,rfl⟩
 obtain ⟨H,q⟩:∃ x,d[a]! = x:=⟨_,rfl⟩
 have B:=fun p=>(j.cells (i:=b) jo p).1
 have C:=fun p=>(j.cells (i:=b) jo p).2
 have D:=fun p=>(j.cells (i:=a) jo p).1
 have E:=fun p=>(j.cells (i:=a) jo p).2
 simp only [o] at B C;simp only [q] at D E;clear o q;have f:=fun W=>qdf G H W
 have k:=hI (qck G H);generalize cmpA G H=J at f k;have g:=hI f;clear f;have S:(a:Int) < (N:Int):=by omega
 have T:(b:Int) < (N:Int):=by omega
 by_cases R:J < 0
 .go_in
  go_wp2_with fail;refine wprX ?_
  repeat (go_big_quiet_step ((go_at_call 215;exact Calls.ext_of (g.out _))))
  refine wpQn fun F c=>?_
  have h:=j.below c;have r:=Cnt.below c n m;clear c;obtain ⟨s,A⟩:=r.cell;obtain ⟨M,O⟩:=qqp A;have t:=hI A;clear A h B C D E;go_wp2;exact vau (v:=.tuple #[.int .i64 b,.int .i64 a]) (by simp [results,results319,go_sem]) rfl ⟨b,a,rfl,Or.inr ⟨rfl,rfl⟩,r.set ⟨s,t.out⟩⟩
 have K:decide (J < 0)=false:=by simp;omega
 go_in;go_wp2_with fail;refine wprX ?_
 repeat (go_big_quiet_step ((go_at_call 215;exact Calls.ext_of (g.out _))))
 refine wpQn fun F c=>?_
 have h:=j.below c;have r:=Cnt.below c n m;clear c;clear h B C D E;go_wp2;exact vau (v:=.tuple #[.int .i64 a,.int .i64 b]) (by simp [results,results319,go_sem]) rfl ⟨a,b,rfl,Or.inl ⟨rfl,rfl⟩,r⟩
theorem qvj (blk off i a b c sb N:Nat) (d:Array (Int×Int)) (w:World) (A:HoldsK qae 2 w blk off d) (g:blk < w.heap.size) (B:d.size=N) (F:a < N) (G:b < N) (H:c < N) (m:blk≠sb) (k:sb < w.heap.size) (C:∃ s:Int,w.heap[sb]?=some (.cells #[.int .i64 s] 3 (0,0))) :
 Calls prog 304 #[.slice (some ⟨blk,off,none⟩) N i,.int .i64 a,.int .i64 b,.int .i64 c,.pointer (some ⟨sb,0,none⟩),.func (.func 215) #[.agg #[]] #[]] w fun e K=>∃ x:Nat,e=.returned (.int .i64 x)/\(x=a\/x=b\/x=c)/\Cnt w sb K:=by
 have p:=hI (qvi blk off i a b sb N d w A g B F G k C);go_in;go_wp2_with fail;refine p.out.mono ?_;rintro e w1 ⟨x,y,rfl,n,h⟩;have I:x < N:=by omega
 have J:y < N:=by omega
 have t:=hI n;clear n;have q:=hI (qvi blk off i y c sb N d w1 (h.holds A g m) (vad g h.size) B J H (vad k h.size) h.cell);go_wp2_with fail;refine q.out.mono ?_;rintro e w2 ⟨E,M,rfl,o,v⟩;have D:E < N:=by omega
 have u:=hI o;clear o;have f:=h.trans v;have r:=hI (qvi blk off i x E sb N d w2 (f.holds A g m) (vad g f.size) B I D (vad k f.size) f.cell);go_wp2_with fail;refine r.out.mono ?_;rintro e O ⟨P,L,rfl,j,z⟩;have l:=hI j;clear j;go_wp2;go_ret;exact ⟨L,rfl,by have:=t.out;have:=u.out;have:=l.out;omega,f.trans z⟩
theorem qvk (blk off b a sb N:Nat) (d:Array (Int×Int)) (w:World) (p:HoldsK qae 2 w blk off d) (c:blk < w.heap.size) (q:d.size=N) (u:1<=a) (v:a + 1 < N) (r:N<=1000000) (h:blk≠sb) (i:sb < w.heap.size) (g:∃ s:Int,w.heap[sb]?=some (.cells #[.int .i64 s] 3 (0,0))) :
 Calls prog 303 #[.slice (some ⟨blk,off,none⟩) N b,.int .i64 a,.pointer (some ⟨sb,0,none⟩),.func (.func 215) #[.agg #[]] #[]] w fun e t=>∃ x:Nat,e=.returned (.int .i64 x)/\(a<=x + 1/\x<=a + 1)/\Cnt w sb t:=by
 obtain ⟨j,u1,u2⟩:∃ n,n + 1<=a/\a<=n + 1:=⟨a - 1,by omega,by omega⟩
 obtain ⟨k,u3,u4⟩:∃ n,n<=a + 1/\a + 1<=n:=⟨_,vaa _,vaa _⟩
 have s1:(a:Int) - 1=(j:Int):=by omega
 have y:(a:Int) + 1=(k:Int):=by omega
 have m:=hI (qvj blk off b j a k sb N d w p c q jo jo jo h i g);go_in;go_wp2_with fail;refine m.out.mono ?_;rintro e w1 ⟨x,rfl,l,o⟩;have f:=hI l;clear l;go_wp2;go_ret;exact ⟨x,rfl,by have:=f.out;omega,o⟩
theorem piv_any (blk off z a b N:Nat) (d:Array (Int×Int)) (w:World) (Y:HoldsK qae 2 w blk off d) (P:blk < w.heap.size) (O:d.size=N) (a1:a + 12 < b) (hb:b<=N) (E:N<=1000000) :
 Calls prog 277 #[.slice (some ⟨blk,off,none⟩) N z,.int .i64 a,.int .i64 b,.func (.func 215) #[.agg #[]] #[]] w fun e w'=>∃ p h:Nat,e=.returned (.tuple #[.int .i64 p,.int .i64 h])/\a<=p/\p < b/\h<=2/\RowKit.Below w.heap.size w w':=by
 obtain ⟨l,l1,l2⟩:∃ n,n<=b - a/\b - a<=n:=⟨_,vaa _,vaa _⟩
 obtain ⟨q,q1,q2⟩:∃ n,n<=l / 4/\l / 4<=n:=⟨_,vaa _,vaa _⟩
 obtain ⟨i,i1,i2⟩:∃ n,n<=a + q/\a + q<=n:=⟨_,vaa _,vaa _⟩
 obtain ⟨j,j1,j2⟩:∃ n,n<=a + q * 2/\a + q * 2<=n:=⟨_,vaa _,vaa _⟩
 obtain ⟨k,k1,k2⟩:∃ n,n<=a + q * 3/\a + q * 3<=n:=⟨_,vaa _,vaa _⟩
 have s1:(b:Int) - (a:Int)=(l:Int):=by omega
 have s2:(l:Int) / 4=(q:Int):=by omega
 have s3:(a:Int) + (q:Int)=(i:Int):=by omega
 have s4:(a:Int) + (q:Int) * 2=(j:Int):=by omega
 have s5:(a:Int) + (q:Int) * 3=(k:Int):=by omega
 have s6:(8:Int)<=(l:Int):=by omega
 have x:HoldsK qae 2 (w.alloc (.cells #[.int .i64 0] 3)) blk off d:=fun t Z=>⟨(vbq w _ ⟨blk,off + t,none⟩ P).trans (Y t Z).1,(World.frozen?_alloc_old w _ ⟨blk,off + t,none⟩ (by show blk≠w.heap.size;omega)).trans (Y t Z).2⟩
 have m:blk < (w.alloc (.cells #[.int .i64 0] 3)).heap.size:=by simp;omega
 have y:w.heap.size < (w.alloc (.cells #[.int .i64 0] 3)).heap.size:=by simp
 have C:∃ s:Int,(w.alloc (.cells #[.int .i64 0] 3)).heap[w.heap.size]?=some (.cells #[.int .i64 s] 3 (0,0)):=⟨0,vaw w _⟩
 have o:blk≠w.heap.size:=by omega
 have f:=hI (bel1 w (.cells #[.int .i64 0] 3));by_cases a0:50<=l
 .have s7:(50:Int)<=(l:Int):=by omega
  go_in;go_wp2_with fail;generalize w.alloc (.cells #[.int .i64 0] 3)=V at x m y C f |-
  refine (qvk blk off z i w.heap.size N d V x m O jo jo E o y C).mono ?_;rintro e w1 ⟨x1,rfl,S,c⟩;go_wp2_with fail;refine (qvk blk off z j w.heap.size N d w1 (c.holds x m o) (vad m c.size) O jo jo E o (vad y c.size) c.cell).mono ?_;rintro e w2 ⟨x2,rfl,T,K⟩;have c:=c.trans K;go_wp2_with fail;refine (qvk blk off z k w.heap.size N d w2 (c.holds x m o) (vad m c.size) O jo jo E o (vad y c.size) c.cell).mono ?_;rintro e w3 ⟨x3,rfl,U,L⟩;have c:=c.trans L;go_wp2_with fail;refine (qvj blk off z x1 x2 x3 w.heap.size N d w3 (c.holds x m o) (vad m c.size) O jo jo jo o (vad y c.size) c.cell).mono ?_;rintro e X ⟨r,rfl,F,M⟩;have c:=c.trans M;have G:a<=r:=by omega
  have H:r < b:=by omega
  clear K L M F U T S;obtain ⟨s,Q⟩:=c.cell;obtain ⟨c1,c2⟩:=qqp Q;have A:RowKit.Below w.heap.size w X:=⟨c.os.trans f.out.os,c.tape.trans f.out.tape,c.output.trans f.out.output,vax f.out.size c.size,fun g R=>(c.block g jo jo).trans (f.out.block g R)⟩
  have u:=hI A;clear A Q;by_cases B:s=0
  .have I:(s == 0)=true:=by simp [B]
   clear B;go_wp2;exact vau (v:=.tuple #[.int .i64 r,.int .i64 (1:Nat)]) (by simp [results,results277,go_sem]) rfl ⟨r,1,rfl,G,H,by omega,u.out⟩
  have I:(s == 0)=false:=by simp [B]
  by_cases D:s=12
  .have J:(s == 12)=true:=by simp [D]
   clear B D;go_wp2;exact vau (v:=.tuple #[.int .i64 r,.int .i64 (2:Nat)]) (by simp [results,results277,go_sem]) rfl ⟨r,2,rfl,G,H,by omega,u.out⟩
  have J:(s == 12)=false:=by simp [D]
  clear B D;go_wp2;exact vau (v:=.tuple #[.int .i64 r,.int .i64 (0:Nat)]) (by simp [results,results277,go_sem]) rfl ⟨r,0,rfl,G,H,by omega,u.out⟩
 have s7:decide ((50:Int)<=(l:Int))=false:=by simp;omega
 go_in;go_wp2_with fail;generalize w.alloc (.cells #[.int .i64 0] 3)=V at x m y C f |-
 refine (qvj blk off z i j k w.heap.size N d V x m O jo jo jo o y C).mono ?_;rintro e X ⟨r,rfl,F,c⟩;have G:a<=r:=by omega
 have H:r < b:=by omega
 clear F;obtain ⟨s,Q⟩:=c.cell;obtain ⟨c1,c2⟩:=qqp Q;have A:RowKit.Below w.heap.size w X:=⟨c.os.trans f.out.os,c.tape.trans f.out.tape,c.output.trans f.out.output,vax f.out.size c.size,fun g R=>(c.block g jo jo).trans (f.out.block g R)⟩
 have u:=hI A;clear A Q;by_cases B:s=0
 .have I:(s == 0)=true:=by simp [B]
  clear B;go_wp2;exact vau (v:=.tuple #[.int .i64 r,.int .i64 (1:Nat)]) (by simp [results,results277,go_sem]) rfl ⟨r,1,rfl,G,H,by omega,u.out⟩
 have I:(s == 0)=false:=by simp [B]
 by_cases D:s=12
 .have J:(s == 12)=true:=by simp [D]
  clear B D;go_wp2;exact vau (v:=.tuple #[.int .i64 r,.int .i64 (2:Nat)]) (by simp [results,results277,go_sem]) rfl ⟨r,2,rfl,G,H,by omega,u.out⟩
 have J:(s == 12)=false:=by simp [D]
 clear B D;go_wp2;exact vau (v:=.tuple #[.int .i64 r,.int .i64 (0:Nat)]) (by simp [results,results277,go_sem]) rfl ⟨r,0,rfl,G,H,by omega,u.out⟩
