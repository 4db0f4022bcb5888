/- Texts that the law leans on. -/
import Derived.Test.YtdcfffhoajmafaaGreatQSortB
import Derived.Test.YtdcfffhoajmafaaGreatQSortE
set_option maxRecDepth 100000
set_option maxHeartbeats 16000000
namespace Go.Proofs.YtdcfffhoajmafaaGreat
open Go.RowKit Go.Sort Go.Lib Go.Proofs.Tryz
theorem next_any (a X:Nat) (b:X < 18446744073709551616) (w:World) (c:w.cell? ⟨a,0,none⟩=some (.int .u64 X)) (f:w.frozen? ⟨a,0,none⟩=false) :
 Calls prog 302 #[.pointer (some ⟨a,0,none⟩)] w fun e h=>∃ Y:Nat,e=.returned (.int .u64 Y)/\Y < 18446744073709551616/\h=(w.setCell ⟨a,0,none⟩ (.int .u64 Y)).drewN 3 :=
 (AnyF.xorshift_Next (P:=prog) (ρ:=laysSort_ren) { laysSort with } a 0 X b w c f).mono fun _ _ ⟨d,g⟩=>⟨_,d,xorNextN_lt X b,g⟩
theorem pow_any (n:Nat) (f:n<=1000000) (a:0 < n) (w:World) :
 Calls prog 301 #[.int .i64 n] w fun e d=>∃ M:Nat,e=.returned (.int .u64 M)/\1<=M/\M<=2 * n/\d=w :=
 (AnyF.nextPowerOfTwo (P:=prog) (ρ:=laysSort_ren) { laysSort with } n jo w).mono fun _ _ ⟨b,c⟩=>⟨_,b,by rw [Nat.one_shiftLeft];exact Nat.one_le_two_pow,by rw [Nat.one_shiftLeft];exact two_pow_bitsLen_le a,c⟩
theorem Srt.other {w i:World} {b off f:Nat} {d:Array (Int×Int)} (h:Srt w b off d i) (c:f≠b) (m:w.heap.size<=f) (v:Value) (n:Nat):Srt w b off d ((i.setCell ⟨f,0,none⟩ v).drewN n):=by
 have e:∀ g,g≠f->((i.setCell ⟨f,0,none⟩ v).drewN n).heap[g]?=i.heap[g]?:=fun g j=>RowKit.Below.heap_setCell _ _ _ _ j
 refine ⟨fun t l=>⟨(vdf (a:=⟨b,off + t,none⟩) (e b (Ne.symm c))).trans (h.holds t l).1,(World.frozen?_of_block (a:=⟨b,off + t,none⟩) (e b (Ne.symm c))).trans (h.holds t l).2⟩,h.lt,?_,fun g j k=>(e g jo).trans (h.block g j k),h.os,h.tape,h.output⟩;show w.heap.size<=(i.heap.modify _ _).size;rw [Array.size_modify];exact h.size
theorem qlt {W:World} {g a:Nat} (h:g≠a) (b c d e:Nat) (f i j k:Value):((((W.drew.setCell ⟨a,b,none⟩ f).setCell ⟨a,c,none⟩ i).setCell ⟨a,d,none⟩ j).setCell ⟨a,e,none⟩ k).heap[g]?=W.heap[g]?:=by
 rw [RowKit.Below.heap_setCell _ _ _ _ h,RowKit.Below.heap_setCell _ _ _ _ h,RowKit.Below.heap_setCell _ _ _ _ h,RowKit.Below.heap_setCell _ _ _ _ h];rfl
theorem one_u {W:World} {B:Nat} {v:Value} {t:TypeId} (h:W.heap[B]?=some (.cells #[v] t (0,0))):W.cell? ⟨B,0,none⟩=some v/\W.frozen? ⟨B,0,none⟩=false:=by
 simp [World.cell?,World.frozen?,h]
theorem brk_any (m off R a b N:Nat) (d:Array (Int×Int)) (w:World) (hH:HoldsK qae 2 w m off d) (I:m < w.heap.size) (hN:d.size=N) (a8:a + 12 < b) (hb:b<=N) (a9:N<=1000000) :
 Calls prog 276 #[.slice (some ⟨m,off,none⟩) N R,.int .i64 a,.int .i64 b,.func (.func 215) #[.agg #[]] #[]] w fun e w'=>e=.returned (.tuple #[])/\∃ d',PermIn a b d d'/\Srt w m off d' w':=by
 have u:=(Srt.refl hH I).below (bel1 w (.cells #[.int .u64 ((b:Int) - (a:Int))] 296));have HN:=hI hN;clear hH hN;obtain ⟨L,n1,n2⟩:∃ n,n<=b - a/\b - a<=n:=⟨_,vaa _,vaa _⟩
 obtain ⟨q,q1,q2⟩:∃ n,n<=L / 4/\L / 4<=n:=⟨_,vaa _,vaa _⟩
 obtain ⟨K,x1,x2⟩:∃ n,n + 1<=a + q * 2/\a + q * 2<=n + 1:=⟨a + q * 2 - 1,by omega,by omega⟩
 obtain ⟨x3,x4,x5⟩:∃ n,n<=a + q * 2/\a + q * 2<=n:=⟨_,vaa _,vaa _⟩
 have s1:(b:Int) - (a:Int)=(L:Int):=by omega
 have s6:(8:Int)<=(L:Int):=by omega
 have hL:12 < L:=by omega
 rw [s1] at u;have A:(w.alloc (.cells #[.int .u64 (L:Int)] 296)).heap[w.heap.size]?=some (.cells #[.int .u64 (L:Int)] 296 (0,0)):=vaw w _;go_in;go_wp2_with fail;generalize w.alloc (.cells #[.int .u64 (L:Int)] 296)=w0 at u A |-
 refine (pow_any L jo jo _).mono ?_;rintro e w1 ⟨M,rfl,m1,m2,rfl⟩;go_wp2
 go_loopw [11] (fun vi wr=>∃ (x X:Nat) (l:Array (Int×Int)),vi=.int .i64 x/\K<=x/\x<=K + 3/\X < 18446744073709551616/\wr.heap[w.heap.size]?=some (.cells #[.int .u64 (X:Int)] 296 (0,0))/\PermIn a b d l/\Srt w m off l wr) (fun vi _=>K + 3 - (intOf vi).toNat)
 case atStart=>exact ⟨K,L,d,by congr 1;omega,vaa _,by omega,by omega,A,permIn_refl _ _ _,u⟩
 case round =>
  clear u A;obtain ⟨x,X,l,rfl,h1,h2,hX,r,V,U⟩:=hrel;have C:l.size=N:=V.1.trans HN.out;have k1:l.size<=N:=vby C;have k2:N<=l.size:=vby C.symm;have F:=hI V;clear V C;by_cases hx:x<=K + 2
  .have hz:(x:Int)<=(a:Int) + (L:Int) / 4 * 2 + 1:=by omega
   obtain ⟨c1,c2⟩:=one_u r;have HX:=hI (next_any w.heap.size X hX wr c1 c2);have E:=hI r;clear c1 c2 r;go_wp2_with fail;refine HX.out.mono ?_;rintro e w2 ⟨Y,rfl,H,D⟩;have g:Srt w m off l w2:=by rw [D];exact U.other jo (vaa _) _ _
   have h:w2.heap[w.heap.size]?=some (.cells #[.int .u64 (Y:Int)] 296 (0,0)):=by
    rw [D];show (wr.heap.modify _ _)[w.heap.size]?=_;rw [vcw,vam rfl,E.out];rfl
   clear D U HX E;obtain ⟨O,a6,G⟩:∃ O:Nat,O<=M - 1/\Hid (bits .and .u64 (Y:Int) ((M:Int) - 1)=(O:Int)):=⟨Y &&& (M - 1),Nat.and_le_right,by show _=_;rw [show ((M:Int) - 1)=((M - 1:Nat):Int) by omega,bits_and_u64_nat _ _ H jo]⟩
   have a0:=G.out;clear G;by_cases a7:L<=O
   .have Z:(L:Int)<=(O:Int):=by omega
    obtain ⟨J,g3,g4⟩:∃ n,n<=O - L/\O - L<=n:=⟨_,vaa _,vaa _⟩
    have e5:(O:Int) - (L:Int)=(J:Int):=by omega
    obtain ⟨k,g1,g2⟩:∃ n,n<=a + J/\a + J<=n:=⟨_,vaa _,vaa _⟩
    have e3:(a:Int) + (J:Int)=(k:Int):=by omega
    have S:IntKind.i64.wrap ((a:Int) + (J:Int))=(k:Int):=by rw [vbc];omega
    have T:IntKind.i64.wrap (k:Int)=(k:Int):=by rw [vbc];omega
    have i1:(x:Int) < (N:Int):=by omega
    have i2:(k:Int) < (N:Int):=by omega
    by_cases B:x=k
    .subst B
     obtain ⟨y1,f⟩:∃ y,l[x]! = y:=⟨_,rfl⟩
     obtain ⟨v,z1,z,z2⟩:=g.own (i:=x) jo;have c:=g.swap (i:=x) (j:=x) jo jo;have o:=hI (permIn_trans _ _ _ _ _ F.out (swp_permIn l a b x x jo jo jo jo jo));rw [f] at v z;rw [f] at c;clear f;have p:=hI c;have s:w.heap.size≠m:=by omega
     clear c g;go_wp2_with fail;go_region
     all_goals go_wp2
     exact ⟨⟨x + 1,Y,swp l x x,by go_num,by omega,by omega,H,(qlt s _ _ _ _ _ _ _ _).trans h,o.out,p.out⟩,by simp [intOf];omega⟩
    skip
    obtain ⟨y1,f⟩:∃ y,l[x]! = y:=⟨_,rfl⟩
    obtain ⟨v,z1,z,z2⟩:=g.own (i:=x) jo;have c:=g.swap (i:=x) (j:=k) jo jo;have o:=hI (permIn_trans _ _ _ _ _ F.out (swp_permIn l a b x k jo jo jo jo jo));rw [f] at v z;obtain ⟨y2,t⟩:∃ y,l[k]! = y:=⟨_,rfl⟩
    obtain ⟨P,z3,Q,z4⟩:=g.own (i:=k) jo;rw [t] at P Q;rw [f,t] at c;clear f t;have p:=hI c;have s:w.heap.size≠m:=by omega
    clear c g;go_wp2_with fail;go_region
    all_goals go_wp2
    exact ⟨⟨x + 1,Y,swp l x k,by go_num,by omega,by omega,H,(qlt s _ _ _ _ _ _ _ _).trans h,o.out,p.out⟩,by simp [intOf];omega⟩
   have Z:¬ (L:Int)<=(O:Int):=by omega
   have a5:decide (L<=O)=false:=by simp;omega
   obtain ⟨k,g1,g2⟩:∃ n,n<=a + O/\a + O<=n:=⟨_,vaa _,vaa _⟩
   have e3:(a:Int) + (O:Int)=(k:Int):=by omega
   have S:IntKind.i64.wrap ((a:Int) + (O:Int))=(k:Int):=by rw [vbc];omega
   have T:IntKind.i64.wrap (k:Int)=(k:Int):=by rw [vbc];omega
   have i1:(x:Int) < (N:Int):=by omega
   have i2:(k:Int) < (N:Int):=by omega
   by_cases B:x=k
   .subst B
    obtain ⟨y1,f⟩:∃ y,l[x]! = y:=⟨_,rfl⟩
    obtain ⟨v,z1,z,z2⟩:=g.own (i:=x) jo;have c:=g.swap (i:=x) (j:=x) jo jo;have o:=hI (permIn_trans _ _ _ _ _ F.out (swp_permIn l a b x x jo jo jo jo jo));rw [f] at v z;rw [f] at c;clear f;have p:=hI c;have s:w.heap.size≠m:=by omega
    clear c g;go_wp2_with fail;go_region
    all_goals go_wp2
    exact ⟨⟨x + 1,Y,swp l x x,by go_num,by omega,by omega,H,(qlt s _ _ _ _ _ _ _ _).trans h,o.out,p.out⟩,by simp [intOf];omega⟩
   skip
   obtain ⟨y1,f⟩:∃ y,l[x]! = y:=⟨_,rfl⟩
   obtain ⟨v,z1,z,z2⟩:=g.own (i:=x) jo;have c:=g.swap (i:=x) (j:=k) jo jo;have o:=hI (permIn_trans _ _ _ _ _ F.out (swp_permIn l a b x k jo jo jo jo jo));rw [f] at v z;obtain ⟨y2,t⟩:∃ y,l[k]! = y:=⟨_,rfl⟩
   obtain ⟨P,z3,Q,z4⟩:=g.own (i:=k) jo;rw [t] at P Q;rw [f,t] at c;clear f t;have p:=hI c;have s:w.heap.size≠m:=by omega
   clear c g;go_wp2_with fail;go_region
   all_goals go_wp2
   exact ⟨⟨x + 1,Y,swp l x k,by go_num,by omega,by omega,H,(qlt s _ _ _ _ _ _ _ _).trans h,o.out,p.out⟩,by simp [intOf];omega⟩
  have hz:¬ (x:Int)<=(a:Int) + (L:Int) / 4 * 2 + 1:=by omega
  have b0:decide ((x:Int)<=(a:Int) + (L:Int) / 4 * 2 + 1)=false:=by simp;omega
  go_wp2;go_end0;exact ⟨rfl,l,F.out,U⟩
theorem swoL:SWO qaf where
 irrefl x:=by unfold qaf;simp
 trans x y z h1 h2:=by unfold qaf at *;simp at *;omega
 ntrans x y z h1 h2:=by unfold qaf at *;simp at *;omega
theorem Srt.of_sw {w:World} {a off:Nat} {d b:Array (Int×Int)} (h:HoldsK qae 2 w a off d) (f:a < w.heap.size) (j:b.size=d.size) (m:Nat) (e:Array Obj):Srt w a off b (sortWorldK qae 2 w a off m b e):=by
 refine ⟨holdsK_sortWorldK_c qae 2 w a off d b m e h f j,f,size_sortWorldK_c qae 2 w a off m b e,fun g i c=>?_,rfl,rfl,rfl⟩;show ((putRowK qae 2 (Sort.ahead w _) a off _).heap ++ _)[g]?=_;rw [vea (by rw [size_putRowK];exact i)];show ((Sort.ahead w _).heap.modify a _)[g]?=_;rw [vcw,vao (Ne.symm c)];rfl
theorem insN_any (c off g a b N:Nat) (d:Array (Int×Int)) (w:World) (k:HoldsK qae 2 w c off d) (f:c < w.heap.size) (p:d.size=N) (i:a<=b) (l:b<=N) (r:N<=1000000) :
 Calls prog 274 #[.slice (some ⟨c,off,none⟩) N g,.int .i64 a,.int .i64 b,.func (.func 215) #[.agg #[]] #[]] w fun e o=>e=.returned (.tuple #[])/\∃ j,PermIn a b d j/\SortedIn qaf a b j/\Srt w c off j o:=by
 subst p;refine (ins_any c off g a b d w k f i l jo).mono ?_;rintro e o ⟨q,n,s,m⟩;rw [ltOf_cmpA] at m;have h:=insertionSort_holds (lt:=qaf) swoL d a b i l;exact ⟨q,_,h.1,h.2,by rw [m];exact Srt.of_sw k f h.1.1 n s⟩
theorem heapN_any (c off f a b N:Nat) (d:Array (Int×Int)) (w:World) (k:HoldsK qae 2 w c off d) (g:c < w.heap.size) (l:d.size=N) (i:a < b) (n:b<=N) (j:N<=1000000) :
 Calls prog 275 #[.slice (some ⟨c,off,none⟩) N f,.int .i64 a,.int .i64 b,.func (.func 215) #[.agg #[]] #[]] w fun e p=>e=.returned (.tuple #[])/\∃ h,PermIn a b d h/\SortedIn qaf a b h/\Srt w c off h p :=
 (heap_any c off f a b N d w k g l i n j).mono fun _ _ ⟨o,m⟩ =>
   ⟨o,_,(heapSort_holds (lt:=qaf) swoL d a b jo jo).1,(heapSort_holds (lt:=qaf) swoL d a b jo jo).2,m⟩
theorem pinsN_any (c off g a b N:Nat) (d:Array (Int×Int)) (w:World) (l:HoldsK qae 2 w c off d) (h:c < w.heap.size) (m:d.size=N) (f:a < b) (o:b<=N) (j:N<=1000000) (k:Sort.Below qaf a b d) :
 Calls prog 279 #[.slice (some ⟨c,off,none⟩) N g,.int .i64 a,.int .i64 b,.func (.func 215) #[.agg #[]] #[]] w fun e q=>∃ (r:Bool) (i:Array (Int×Int)),e=.returned (.bool r)/\PermIn a b d i/\(r=true->SortedIn qaf a b i)/\Srt w c off i q :=
 (pins_any c off g a b N d w l h m f o j).mono fun _ _ ⟨p,n⟩ =>
   ⟨_,_,p,(partialInsertionSort_holds (lt:=qaf) swoL d a b f jo k).1,(partialInsertionSort_holds (lt:=qaf) swoL d a b f jo k).2,n⟩
def parB (x y:Bool) (h:Nat):Bool:=x && y && (h == 1)
def peB (d:Array (Int×Int)) (a p:Nat):Bool:=decide (0 < a) && !qaf d[a - 1]! d[p]!
def Todo (A B:Nat) (D:Array (Int×Int)) (a b:Nat) (d:Array (Int×Int)):Prop:=∀ R,PermIn a b d R->SortedIn qaf a b R->PermIn A B D R/\SortedIn qaf A B R
theorem Todo.perm {A B a b:Nat} {D d c:Array (Int×Int)} (h:Todo A B D a b d) (g:PermIn a b d c):Todo A B D a b c:=fun R e f=>h R (permIn_trans _ _ _ _ _ g e) f
theorem pdq_any (m:Nat):∀ (g k B a b N E:Nat) (d:Array (Int×Int)) (w:World),b - a<=m->HoldsK qae 2 w g k d->g < w.heap.size->d.size=N->a<=b->b<=N->N<=1000000->E<=64->Sort.Below qaf a b d ->
 Calls prog 260 #[.slice (some ⟨g,k,none⟩) N B,.int .i64 a,.int .i64 b,.int .i64 E,.func (.func 215) #[.agg #[]] #[]] w fun e w'=>e=.returned (.tuple #[])/\∃ d',PermIn a b d d'/\SortedIn qaf a b d'/\Srt w g k d' w':=by
 induction m using Nat.strongRecOn with
 | ind m ih =>
   intro g k B a b N E d w hm hH e1 hN f2 hb H h6 b0;have d6:=Srt.refl hH e1;have HN:=hI hN;have e6:=hI b0;clear hH hN b0;go_in;go_wp2
   go_loopw [1,2,3,10,11] (fun v1 v2 v3 g7 g8 wr=>∃ (c j l:Nat) (wb wp:Bool) (dk:Array (Int×Int)),v1=.int .i64 c/\v2=.int .i64 j/\v3=.int .i64 l/\g7=.bool wb/\g8=.bool wp/\a<=c/\c<=j/\j<=b/\l<=E/\dk.size=N/\Sort.Below qaf c j dk/\Srt w g k dk wr/\Todo a b d c j dk) (fun v1 v2 _ _ _ _=>(intOf v2 - intOf v1).toNat)
   case atStart=>exact ⟨a,b,E,true,true,d,rfl,rfl,rfl,rfl,rfl,vaa _,f2,vaa _,vaa _,HN.out,e6.out,d6,fun R h1 X=>⟨h1,X⟩⟩
   case round =>
    clear d6;obtain ⟨c,j,l,wb,wp,dk,rfl,rfl,rfl,rfl,rfl,t1,t2,t3,t4,e4,b2,f,a4⟩:=hrel;have Y:=hI e4;have e7:=hI b2;have b4:=hI a4;clear e4 b2 a4;obtain ⟨n,w7,w8⟩:∃ n,n<=j - c/\j - c<=n:=⟨_,vaa _,vaa _⟩
    have s3:(j:Int) - (c:Int)=(n:Int):=by omega
    by_cases i1:n<=12
    .have c9:(n:Int)<=12:=by omega
     have A:=hI (insN_any g k B c j N dk _ f.holds f.lt1 Y.out jo jo H);go_wp2_with fail;refine A.out.mono ?_;rintro e w5 ⟨rfl,V,z,C,D⟩;have HF:=hI (b4.out V z C);have O:=f.trans D;clear z C D A;go_wp2;exact vau (v:=.tuple #[]) (qdb rfl _ _ _) rfl ⟨rfl,V,HF.out.1,HF.out.2,O⟩
    have c9:decide ((n:Int)<=12)=false:=by simp;omega
    have h4:¬ (n:Int)<=12:=by omega
    by_cases f4:l=0
    .subst f4
     have A:=hI (heapN_any g k B c j N dk _ f.holds f.lt1 Y.out jo jo H);go_wp2_with fail;refine A.out.mono ?_;rintro e w5 ⟨rfl,V,z,C,D⟩;have HF:=hI (b4.out V z C);have O:=f.trans D;clear z C D A;go_wp2;exact vau (v:=.tuple #[]) (qdb rfl _ _ _) rfl ⟨rfl,V,HF.out.1,HF.out.2,O⟩
    have f5:((l:Int) == 0)=false:=by simp;omega
    have i4:(l == 0)=false:=by simp;omega
    go_upto_if 39 with fail
    go_cut [3] from 21 to 147 (fun s wx=>∃ (l1:Nat) (d1:Array (Int×Int)),s=.int .i64 l1/\l1<=l/\PermIn c j dk d1/\Srt w g k d1 wx)
    case first =>
     cases wb with
     | true =>
       go_wp2_with fail;go_meet;exact ⟨l,dk,rfl,vaa _,permIn_refl _ _ _,f⟩
     | false =>
       have A:=hI (brk_any g k B c j N dk _ f.holds f.lt1 Y.out jo jo H);obtain ⟨l0,g1,g2⟩:∃ n,n + 1<=l/\l<=n + 1:=⟨l - 1,by omega,by omega⟩
       have sl:(l:Int) - 1=(l0:Int):=by omega
       go_wp2_with fail;refine A.out.mono ?_;rintro e w5 ⟨rfl,d1,P,u⟩;have e8:=hI P;have F:=f.trans u;clear P u A f;go_wp2_with fail;go_meet;exact ⟨l0,d1,rfl,by omega,e8.out,F⟩
    case rest =>
     clear f;obtain ⟨l1,d1,rfl,f5,P,f⟩:=hcut;have T:Hid (d1.size=N):=P.1.trans Y.out;have c3:=hI (e7.out.perm (by rw [Y.out];omega) P);have f0:=hI (b4.out.perm P);clear P;have A:=hI (piv_any g k B c j N d1 _ f.holds f.lt1 T.out jo jo H);go_wp2_with fail;refine A.out.mono ?_;rintro e w3 ⟨p0,h0,rfl,i6,h7,i2,e0⟩;have d0:=f.below e0;clear f e0 A;have f:=d0;clear d0;go_upto_if 56 with fail
     go_cut [13,14] from 21 to 147 (fun f9 g0 wx=>∃ (p X:Nat) (d2:Array (Int×Int)),f9=.int .i64 p/\g0=.int .i64 X/\(c<=p/\p < j)/\X<=2/\PermIn c j d1 d2/\Srt w g k d2 wx)
     case first =>
      by_cases hh:h0=2
      .subst hh
       have A:=hI (rev_any g k B c j N d1 _ f.holds f.lt1 T.out jo jo H);obtain ⟨b1,g1,g2⟩:∃ n,n + 1<=j/\j<=n + 1:=⟨j - 1,by omega,by omega⟩
       obtain ⟨pa,g3,g4⟩:∃ n,n<=p0 - c/\p0 - c<=n:=⟨_,vaa _,vaa _⟩
       obtain ⟨p2,g5,g6⟩:∃ n,n<=b1 - pa/\b1 - pa<=n:=⟨_,vaa _,vaa _⟩
       have sb:(j:Int) - 1=(b1:Int):=by omega
       have sp:(p0:Int) - (c:Int)=(pa:Int):=by omega
       have sq:(b1:Int) - (pa:Int)=(p2:Int):=by omega
       go_wp2_with fail;refine A.out.mono ?_;rintro e w5 ⟨rfl,d2,Q,u⟩;have e9:=hI Q;have F:=f.trans u;clear Q u A f;go_wp2_with fail;go_meet;exact ⟨p2,1,d2,rfl,rfl,by omega,by omega,e9.out,F⟩
      have f7:((h0:Int) == 2)=false:=by simp;omega
      have e3:(h0 == 2)=false:=by simp;omega
      go_wp2_with fail;go_meet;exact ⟨p0,h0,d1,rfl,rfl,by omega,by omega,permIn_refl _ _ _,f⟩
     case rest =>
      clear f;obtain ⟨p,X,d2,rfl,rfl,i7,i3,Q,f⟩:=hcut;have Z:Hid (d2.size=N):=Q.1.trans T.out;have a6:=hI (c3.out.perm (by rw [T.out];omega) Q);have c7:=hI (f0.out.perm Q);clear Q;go_upto_region 15 with fail
      go_cut [75] from 21 to 147 (fun s wx=>s=.bool (parB wb wp X)/\Srt w g k d2 wx)
      case first =>
       have a3:∀ r:Bool,r=parB wb wp X->Value.bool r=.bool (parB wb wp X):=fun r h=>by rw [h]
       have HD:=hI a3;clear a3;by_cases hh:X=1
       .subst hh
        cases wb <;> cases wp
        all_goals
         go_wp2_with fail;go_meet;exact ⟨HD.out _ rfl,f⟩
       have f7:((X:Int) == 1)=false:=by simp;omega
       have e3:(X == 1)=false:=by simp;omega
       have f6:Hid (∀ x y,parB x y X=false):=fun x y=>by unfold parB;rw [e3];simp
       cases wb <;> cases wp
       all_goals
        go_wp2_with fail;go_meet;exact ⟨HD.out _ (f6.out _ _).symm,f⟩
      case rest =>
       clear f;obtain ⟨rfl,f⟩:=hcut;go_upto_if 75 with fail
       go_cut [] from 21 to 147 (fun wx=>∃ t:Array (Int×Int),PermIn c j d2 t/\Srt w g k t wx)
       case first =>
        cases d7:parB wb wp X
        .have c6:=hI d7
         go_wp2_with fail;go_meet;exact ⟨d2,permIn_refl _ _ _,f⟩
        have c6:=hI d7;have A:=hI (pinsN_any g k B c j N d2 _ f.holds f.lt1 Z.out jo jo H a6.out);go_wp2_with fail;refine A.out.mono ?_;rintro e w5 ⟨r,t,rfl,S,e5,u⟩;have c4:=hI S;have c5:=hI e5;have F:=f.trans u;clear S e5 u A f;cases r with
        | true =>
          go_wp2;have b3:=c7.out t c4.out (by first | exact c5.out rfl | exact c5.out trivial);exact vau (v:=.tuple #[]) (qdb rfl _ _ _) rfl ⟨rfl,t,b3.1,b3.2,F⟩
        | false =>
          go_wp2_with fail;go_meet;exact ⟨t,c4.out,F⟩
       case rest =>
        clear f;obtain ⟨t,S,f⟩:=hcut;have I:Hid (t.size=N):=S.1.trans Z.out;have k5:t.size<=N:=vby I.out;have k6:N<=t.size:=vby I.out.symm;have a7:=hI (a6.out.perm (by rw [Z.out];omega) S);have b5:=hI (c7.out.perm S);clear S;go_upto_region 17 with fail
        go_cut [97] from 21 to 147 (fun s wx=>s=.bool (peB t c p)/\Srt w g k t wx)
        case first =>
         by_cases d8:0 < c
         .have d9:(0:Int) < (c:Int):=by omega
          obtain ⟨am,y1,y2⟩:∃ n,n + 1<=c/\c<=n + 1:=⟨c - 1,by omega,by omega⟩
          have i0:(c:Int) - 1=(am:Int):=by omega
          have h3:IntKind.i64.wrap ((c:Int) - 1)=(am:Int):=by rw [vbc];omega
          have g9:IntKind.i64.wrap (am:Int)=(am:Int):=by rw [vbc];omega
          have f3:Hid (c - 1=am):=by show _=_;omega
          have h9:(am:Int) < (N:Int):=by omega
          have bp:(p:Int) < (N:Int):=by omega
          obtain ⟨xi,b6⟩:∃ x,t[am]! = x:=⟨_,rfl⟩
          obtain ⟨xj,b7⟩:∃ x,t[p]! = x:=⟨_,rfl⟩
          have b8:=fun q=>(f.cells (i:=am) jo q).1
          have b9:=fun q=>(f.cells (i:=am) jo q).2
          have c0:=fun q=>(f.cells (i:=p) jo q).1
          have c1:=fun q=>(f.cells (i:=p) jo q).2
          simp only [b6] at b8 b9;simp only [b7] at c0 c1;have a2:=fun W=>qdf xi xj W
          have a9:=hI (qck xi xj);generalize cmpA xi xj=v1 at a2 a9;have a8:=hI a2;clear a2;have HT:Hid (peB t c p = !decide (v1 < 0)):=by show _=_;unfold peB;rw [f3.out,b6,b7,a9.out];simp [d8]
          clear b6 b7;by_cases hv:v1 < 0
          .skip
           go_wp2_with fail;refine wprX ?_
           repeat (go_big_quiet_step ((go_at_call 215;exact Calls.ext_of (a8.out _))))
           refine wpQn fun w' a1=>?_
           have F:=f.below a1;clear a1;clear b8 b9 c0 c1;go_wp2_with fail;go_meet;exact ⟨congrArg Value.bool (HT.out.trans (by simp [hv])).symm,F⟩
          have i8:decide (v1 < 0)=false:=by simp;omega
          go_wp2_with fail;refine wprX ?_
          repeat (go_big_quiet_step ((go_at_call 215;exact Calls.ext_of (a8.out _))))
          refine wpQn fun w' a1=>?_
          have F:=f.below a1;clear a1;clear b8 b9 c0 c1;go_wp2_with fail;go_meet;exact ⟨congrArg Value.bool (HT.out.trans (by simp [hv])).symm,F⟩
         have h5:decide ((0:Int) < (c:Int))=false:=by simp;omega
         have d9:¬ (0:Int) < (c:Int):=by omega
         have HT:Hid (peB t c p=false):=by show _=_;unfold peB;simp [d8]
         go_wp2_with fail;go_quiet (fail);go_wp2_with fail;go_meet;exact ⟨congrArg Value.bool HT.out.symm,f.below (qaj (RowKit.Below.refl _ _) nq)⟩
        case rest =>
         clear f;obtain ⟨rfl,f⟩:=hcut;cases hT:peB t c p
         .skip
          have A:=hI (part_any g k B c j p N t _ f.holds f.lt1 I.out jo jo jo H);have L:=hI (round_part swoL (partition_holds qaf) (d3:=t) (a:=c) (b:=j) (pivot:=p) (mid:=(partition qaf t c j p).1) (ap:=(partition qaf t c j p).2.1) (d4:=(partition qaf t c j p).2.2) jo jo jo a7.out rfl);have c8:=hI hT;clear hT;generalize partition qaf t c j p=c2 at A L;obtain ⟨o,ap,d4⟩:=c2;have m1:=L.out.1;have m2:=L.out.2.1;have U:Hid (d4.size=N):=L.out.2.2.1.trans I.out;simp only at m1 m2 A;obtain ⟨ll,g1,g2⟩:∃ n,n<=o - c/\o - c<=n:=⟨_,vaa _,vaa _⟩
          obtain ⟨rl,g3,g4⟩:∃ n,n<=j - o/\j - o<=n:=⟨_,vaa _,vaa _⟩
          have i9:(o:Int) - (c:Int)=(ll:Int):=by omega
          have j0:(j:Int) - (o:Int)=(rl:Int):=by omega
          obtain ⟨K,g5,g6⟩:∃ n,n<=o + 1/\o + 1<=n:=⟨_,vaa _,vaa _⟩
          have sm:(o:Int) + 1=(K:Int):=by omega
          have a5:Hid (K=o + 1):=by show _=_;omega
          go_wp2_with fail;refine A.out.mono ?_;rintro e w5 ⟨rfl,u⟩;have G:=f.trans u;clear u A f;by_cases i5:ll < rl
          .have f8:(ll:Int) < (rl:Int):=by omega
           have J:=hI (ih (o - c) jo g k B c o N l1 d4 _ (vaa _) G.holds G.lt1 U.out jo jo H jo L.out.2.2.2.1);go_wp2_with fail;refine J.out.mono ?_;rintro e w6 ⟨rfl,V,z,C,D⟩;have M:=hI (L.out.2.2.2.2.2.1 V z C);have a0:Hid (V.size=N):=z.1.trans U.out;have O:=G.trans D;clear z C D G J;go_wp2;exact ⟨⟨K,j,l1,_,ap,V,rfl,rfl,rfl,rfl,rfl,by omega,by omega,by omega,by omega,a0.out,by rw [a5.out];exact M.out.1,O,fun R r1 r2=>by rw [a5.out] at r1 r2;exact b5.out R (M.out.2 R r1 r2).1 (M.out.2 R r1 r2).2⟩,by simp [intOf];omega⟩
          have f8:¬ (ll:Int) < (rl:Int):=by omega
          have h8:decide (ll < rl)=false:=by simp;omega
          have J:=hI (ih (j - K) jo g k B K j N l1 d4 _ (vaa _) G.holds G.lt1 U.out jo jo H jo (by rw [a5.out];exact L.out.2.2.2.2.1));go_wp2_with fail;refine J.out.mono ?_;rintro e w6 ⟨rfl,V,z,C,D⟩;rw [a5.out] at z C;have M:=hI (L.out.2.2.2.2.2.2 V z C);have a0:Hid (V.size=N):=z.1.trans U.out;have O:=G.trans D;clear z C D G J;go_wp2;exact ⟨⟨c,o,l1,_,ap,V,rfl,rfl,rfl,rfl,rfl,by omega,by omega,by omega,by omega,a0.out,M.out.1,O,fun R r1 r2=>b5.out R (M.out.2 R r1 r2).1 (M.out.2 R r1 r2).2⟩,by simp [intOf];omega⟩
         skip
         have A:=hI (zau g k B c j p N t _ f.holds f.lt1 I.out jo jo jo H);have f1:0 < c:=by unfold peB at hT;simp at hT;exact hT.1
         have e2:qaf t[c - 1]! t[p]! = false:=by unfold peB at hT;simp at hT;exact hT.2
         have L:=hI (round_eq swoL (partitionEqual_holds qaf) (d3:=t) (a:=c) (b:=j) (pivot:=p) (mid:=(partitionEqual qaf t c j p).1) (d4:=(partitionEqual qaf t c j p).2) f1 jo jo jo a7.out e2 rfl);clear e2;have c8:=hI hT;generalize partitionEqual qaf t c j p=c2 at A L;obtain ⟨o,d4⟩:=c2;have m1:=L.out.1;have m2:=L.out.2.1;simp only at m1 m2 A;go_wp2_with fail;refine A.out.mono ?_;rintro e w5 ⟨rfl,u⟩;have G:=f.trans u;clear u A f;go_wp2;exact ⟨⟨o,j,l1,wb,wp,d4,rfl,rfl,rfl,rfl,rfl,by omega,by omega,by omega,by omega,L.out.2.2.1.trans I.out,L.out.2.2.2.1,G,fun R r1 r2=>b5.out R (L.out.2.2.2.2 R r1 r2).1 (L.out.2.2.2.2 R r1 r2).2⟩,by simp [intOf];omega⟩
