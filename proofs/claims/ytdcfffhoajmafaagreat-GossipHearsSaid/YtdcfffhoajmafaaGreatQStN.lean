/- Texts that the law leans on. -/
import Derived.Test.YtdcfffhoajmafaaGreatQKnX
import Derived.Test.YtdcfffhoajmafaaGreatQCopyK
set_option maxRecDepth 100000
set_option maxHeartbeats 4000000
namespace Go.Proofs.YtdcfffhoajmafaaGreat
open Go.RowKit Go.Sort Go.Lib Go.Proofs.Tryz
theorem Grow0_any (N:Nat) (w:World) (p:0 < N) (u:N<=1000000) :
 Calls prog 220 #[.slice none 0 0,.int .i64 N] w fun e o=>∃ v,e=.returned v/\o.ownsRow w.heap.size 3 1 v 0 []/\Below w.heap.size w o:=by
 obtain ⟨r,i,j,k,l⟩:=vbo qcc;have a:=Lib.run_append_nil_zeros (P:=prog) w 26 3 26 3 r (.int .i64 0) .i64 .i64 underlying26 underlying3 i j N p (by rw [k];decide) jo (by rw [l];omega);have s:decide ((N:Int) < 0)=false:=vab jo;have t:decide (0 < (N:Int))=true:=vah jo;obtain ⟨G,h⟩:∃ G,grownCap w N 0 3 = G:=⟨_,rfl⟩
 have q:N<=G:=by rw [<-h];exact grownCap_ge w N 0 3
 have d:G<=maxLen:=by rw [<-h];exact grownCap_le_maxLen w N 0 3 jl
 rw [h] at a;obtain ⟨c,b⟩:∃ Z,Builtin.zeroCells (Value.int .i64 0).cells N ++ Builtin.zeroCells (Value.int .i64 0).cells (G - N)=Z:=⟨_,rfl⟩
 have g:c.size=G * 1:=by
  rw [<-b,vdd,size_zeroCells,size_zeroCells];simp [Value.cells];omega
 rw [b] at a;have n:Hid ((w.drew.alloc (.cells c 3)).ownsRow w.heap.size 3 1 (.slice (some ⟨w.heap.size,0,none⟩) 0 G) 0 []):=hI (vev w.drew c G (vaa _) d g);have m:Hid (Below w.heap.size w (w.drew.alloc (.cells c 3))):=hI ((vag _ w).drew.alloc (vaa _) _);obtain ⟨x,f⟩:∃ W,W=w.drew.alloc (.cells c 3):=⟨_,rfl⟩
 rw [<-f] at n m a;clear f h b g d;go_in;go_wp2_with (at_builtin;refine Lib.wpList_append_run _ rfl _ _ _ _ rfl _ _ rfl rfl _ _ a ?_);go_ret;exact ⟨_,rfl,n.out,m.out⟩
def catM (m:Array (RW Int)) (i:Nat):List Int:=(m.toList.take i).flatMap fun x=>x.z.toList
theorem qnq (m:Array (RW Int)) {i:Nat} (h:i < m.size):catM m (i + 1)=catM m i ++ m[i]!.z.toList:=by
 unfold catM;rw [vdb,vbl (by simpa using h),vae m i h,List.flatMap_append];simp
theorem qlw (m:Array (RW Int)) {n:Nat} (h:∀ i,i < m.size->m[i]!.z.size=n):∀ i,i<=m.size->(catM m i).length=i * n:=by
 intro i
 induction i with
 | zero=>intro _;simp [catM]
 | succ i ih =>
   intro a;rw [qnq m jo,vdk,ih jo,vdx];simp [h i jo]
theorem catM_at (m:Array (RW Int)) {n:Nat} (h:∀ i,i < m.size->m[i]!.z.size=n):∀ k,k<=m.size->∀ i j,i < k->j < n->(catM m k)[i * n + j]?=some m[i]!.z[j]!:=by
 intro k
 induction k with
 | zero=>intro _ i j c;omega
 | succ k ih =>
   intro f i j c d;rw [qnq m jo];have e:=qlw m h k jo;rcases val i k with a | a
   .have b:(i + 1) * n<=k * n:=vce n a
    rw [vdx] at b;rw [vej jo];exact ih jo i j a d
   obtain rfl:i=k:=by omega
   rw [vei jo,e,vfh];have g:=h i jo;rw [vbh,vbe jo,vae _ j jo]
theorem zbb (A:Option Addr) (c n:Nat) (m:Array (RW Int)) (w:World) (h:RdMM w ⟨A,c,m⟩) (M:∀ i,i < m.size->m[i]!.z.size=n) (h0:0 < n) (E:n<=9) (hm:0 < m.size) (D:m.size<=9) :
 Calls prog 164 #[.slice A m.size c] w fun e w'=>∃ v,e=.returned v/\w'.ownsRow w.heap.size 3 1 v (catM m m.size).length ((catM m m.size).map (Value.int .i64))/\Below w.heap.size w w':=by
 obtain ⟨j0,L,O,P,Q⟩:=vbo qcc;have T:Hid (RdK encW 1 w.heap.size w A m):=h.1.rd;have HJ:Hid (∀ i,i < m.size->RdJ w m[i]!):=h.2;have HL:=hI (qlw m M);have S:=hI M;have HS:=hI (fun (i:Nat) (hi:i < m.size)=>qnq m hi);clear h M;go_in;go_wp2
 go_loop [3,11] (fun sz i=>∃ k:Nat,i=.int .i64 k/\k<=m.size/\sz=.int .i64 ((k * n:Nat):Int)) (fun _ i=>m.size - (intOf i).toNat)
 case atStart=>exact ⟨0,rfl,vaj _,by simp⟩
 case round =>
  obtain ⟨k,rfl,F,rfl⟩:=hrel;have B:k * n<=81:=vax (vew (vax F D) E) jd;by_cases d:k < m.size
  .have kz:(k:Int) < (m.size:Int):=by omega
   obtain ⟨b,R,rfl,K,f⟩:=T.out.at_ (i:=k) d;have y:=f 0 jo;have X:(k + 1) * n=k * n + n:=vdx k n;obtain ⟨p,hp⟩:∃ p,k * n=p:=⟨_,rfl⟩
   rw [hp] at B X |-
   have r:=S.out k d;simp only [vak,vcq,encW,RW.v,vac,r] at y;have e2:decide ((p:Int) + (n:Int) < 0)=false:=vab jo;go_wp2;go_round
   case rel=>exact ⟨k + 1,by go_num,by omega,by rw [X];go_num⟩
   case measure=>simp [intOf];omega
  have C:decide ((k:Int) < (m.size:Int))=false:=vab jo;obtain rfl:k=m.size:=by omega
  obtain ⟨N,l⟩:∃ N,m.size * n=N:=⟨_,rfl⟩
  have J:0 < N:=by rw [<-l];exact Nat.mul_pos hm h0
  rw [l] at B |-
  have HG:=hI (Grow0_any N w J jo);clear l;go_wp2_with (go_at_call 220;refine HG.out.mono ?_;rintro _ w1 ⟨v0,rfl,a,U⟩;have HO:=hI a;have G:=hI U;clear a U)
  go_loopw [6,27] (fun v i wr=>∃ (k:Nat),i=.int .i64 k/\k<=m.size/\wr.ownsRow w.heap.size 3 1 v (catM m k).length ((catM m k).map (Value.int .i64))/\Hid (Below w.heap.size w wr)) (fun _ i _=>m.size - (intOf i).toNat)
  case atStart=>exact ⟨0,rfl,vaj _,by simpa [catM] using HO.out,G⟩
  case round =>
   obtain ⟨k,rfl,F,a,s⟩:=hrel;have hl:=HL.out k F;have V:k * n<=81:=vax (vew (vax F D) E) jd;have I:=s.out.size;by_cases d:k < m.size
   .have kz:(k:Int) < (m.size:Int):=by omega
    obtain ⟨b,R,rfl,K,f⟩:=(T.out.below s.out).at_ (i:=k) d;have y:=f 0 jo;have t:=hI ((HJ.out k d).rd.below s.out);have r:=S.out k d;have g:=hI (HS.out k d);obtain ⟨u,Y⟩:∃ u,m[k]! = u:=⟨_,rfl⟩
    rw [Y] at y t r g;clear Y f;simp only [vak,vcq,encW,RW.v,vac,r] at y;obtain ⟨b2,o2,H,a0,f2⟩:=t.out jo;rw [H] at y;obtain ⟨x,hx⟩:∃ x,catM m k=x:=⟨_,rfl⟩
    rw [hx] at a g hl;clear hx
    go_wp2_with (at_builtin;refine vay _ rfl _ _ 26 rfl w.heap.size 3 j0 (.int .i64 0) 1 8 underlying26 L O P Q rfl jd _ _ _ rfl a ⟨b2,o2,none⟩ n u.c (u.z.toList.map (Value.int .i64)) rfl (by simp [r]) (by
     intro j v z;rw [vdc] at z;rcases val j u.z.size with h | h
     .rw [Addr.add_lit,f2 j h]
      rw [vbh,vbe h] at z;rw [vae u.z j h];simpa using z
     rw [vbh,vbn h] at z
     cases z)
                    (by intro v Z;simp at Z;obtain ⟨_,_,rfl⟩:=Z;rfl) jl jo jo ?_;intro v' w3 q o _)
    go_roundw
    case rel =>
     refine ⟨k + 1,by go_num,by omega,?_,hI (s.out.grown o I (qnd a))⟩;have e:u.z.toList.length=n:=by simpa using r
     rw [g.out,vdk,vdn,e];exact q
    case measure=>simp [intOf];omega
   have C:decide ((k:Int) < (m.size:Int))=false:=vab jo;obtain rfl:k=m.size:=by omega
   go_wp2;go_ret;exact ⟨_,rfl,a,s.out⟩
theorem zbc (A:Option Addr) (c n:Nat) (m:Array (RW Int)) (w:World) (h:RdMM w ⟨A,c,m⟩) (J:∀ i,i < m.size->m[i]!.z.size=n) (F:0 < n) (p:n<=9) (O:m.size=n) :
 Calls prog 80 #[.slice A m.size c,.int .i64 n] w fun e q=>∃ (v:Value) (b:Nat),e=.returned v/\w.heap.size<=b/\(∃ (a:Nat) (d:Array Value),q.heap[b]?=some (.cells d 3 (0,0))/\n * n<=a/\d.size=a/\d.toList.take (n * n)=(catM m m.size).map (Value.int .i64))/\q.ownsRow (b + 1) 26 1 v n ((List.range n).map fun i=>.slice (some ⟨b,0 + i * n,none⟩) n n)/\Below w.heap.size w q:=by
 have K:=hI (zbb A c n m w h J F p jo jo);have j:=qlw m J m.size (vaa _);generalize catM m m.size=L at K j |-
 rw [O] at j;have G:n * n<=9 * 9:=vew p p;have B:0 < n * n:=Nat.mul_pos F F;obtain ⟨N,H⟩:∃ N,n * n=N:=⟨_,rfl⟩
 have o:Hid (∀ b a W,N<=a->a<=maxLen->Calls prog 163 #[.slice (some ⟨b,0,none⟩) N a,.int .i64 n] W fun e q=>∃ v,e=.returned v/\q.ownsRow W.heap.size 26 1 v n ((List.range n).map fun i=>.slice (some ⟨b,0 + i * n,none⟩) n n)/\Below W.heap.size W q):=fun b a W Y X=>by
  rw [<-H];exact cut_any b 0 a n W jo jo X
 rw [H] at G j B |-
 clear h J H O;go_in;go_wp2_with fail;refine K.out.mono ?_;rintro _ P ⟨v,rfl,f,t⟩;obtain ⟨z,⟨rfl,V⟩ | ⟨g,a,d,rfl,M,I,k,u,x,l⟩⟩:=f
 .omega
 rw [j] at k l |-
 have S:=hI I;have Q:=hI t;rw [vcq] at l;have U:=hI l;have y:g < P.heap.size:=(vbm.1 I).1;have C:=hI (o.out g a P k u);have D:Hid (d.size=a):=(by simpa using x:d.size=a)
 have E:=hI k;have R:=hI M;have s:=hI y;clear I t l u x z k M y o;go_wp2_with fail;refine C.out.mono ?_;rintro _ Z ⟨v,rfl,f,t⟩;have T:=hI f;have r:=hI t;clear f t;go_wp2;go_ret;exact ⟨v,g,rfl,R.out,⟨a,d,(r.out.block g s.out).trans S.out,E.out,D.out,U.out⟩,qdj T.out s.out,qaa Q.out r.out⟩
