/- Texts that the law leans on. -/
import Derived.Test.YtdcfffhoajmafaaGreatQStD
import Derived.Test.YtdcfffhoajmafaaGreatQStE
import Derived.Test.YtdcfffhoajmafaaGreatQStI
import Derived.Test.YtdcfffhoajmafaaGreatQKnX
set_option maxRecDepth 100000
set_option maxHeartbeats 16000000
namespace Go.Proofs.YtdcfffhoajmafaaGreat
open Go.RowKit Go.Sort Go.Lib Go.Proofs.Tryz
theorem qlg (n f:Int) (w:World) (c:f<=9):Calls prog 143 #[.int .i64 n,.int .i64 f] w fun e a=>e=.returned (.int .i64 (qmq n f))/\w=a:=by
 have b:1<=f->3<=n->n<=9->True:=fun _ _ _=>trivial
 go_in;go_wp2
 all_goals
  go_ret;refine ⟨qag ?_,rfl⟩;unfold qmq qfd
  first
   | exact (vam (show 3<=n/\n<=9/\1<=f/\2 * f<=n - 1 by omega)).symm
   | exact (vao (show ¬ (3<=n/\n<=9/\1<=f/\2 * f<=n - 1) by omega)).symm
def qlo (n f:Int):Int:=if qfd n f then n / 2 + f else 0
def zax (n f:Int):Int:=if qfd n f then f + 1 else 0
def zay (n f:Int):Int:=if qfd n f then n - f else 0
theorem qtc (n f:Int) (w:World):Calls prog 59 #[.int .i64 n,.int .i64 f] w fun e o=>e=.returned (.tuple #[.int .i64 (qlo n f),.int .i64 (zax n f),.int .i64 (zay n f)])/\w=o:=by
 have m:=qou n f;have i:Hid (qlo n f=if qfd n f then n / 2 + f else 0):=hI rfl;have j:Hid (zax n f=if qfd n f then f + 1 else 0):=hI rfl;have g:Hid (zay n f=if qfd n f then n - f else 0):=hI rfl;by_cases h:qfd n f
 .rw [vam h] at i j g
  have k:decide (9 < f)=false:=by unfold qfd at h;simp;omega
  rw [vah h] at m;unfold qfd at h;obtain ⟨a,b,c,d⟩:=h;go_in;go_wp2_with (go_at_call 143;refine (qlg _ _ _ jo).mono ?_;rintro _ _ ⟨rfl,rfl⟩);go_ret3;exact ⟨by rw [i.out,j.out,g.out];rfl,rfl⟩
 rw [vao h] at i j g;rw [vab h] at m;clear h;by_cases k:9 < f
 .have l:decide (9 < f)=true:=vah k
  go_in;go_wp2;go_ret3;exact ⟨by rw [i.out,j.out,g.out];rfl,rfl⟩
 have l:decide (9 < f)=false:=vab k;go_in;go_wp2_with (go_at_call 143;refine (qlg _ _ _ jo).mono ?_;rintro _ _ ⟨rfl,rfl⟩);go_ret3;exact ⟨by rw [i.out,j.out,g.out];rfl,rfl⟩
theorem qvp (n f:Int):qlo n f≠0↔qfd n f:=by
 unfold qlo;by_cases h:qfd n f
 .rw [vam h];unfold qfd at h |-;constructor
  .intro _;exact h
  intro _;omega
 rw [vao h];simp [h]
theorem set_last {d:Array (Int×Int)} (h:qam d=0):(∀ j,j < d.size->d[j]!.2<=99999)↔¬ (0 < d.size/\99999 < d[d.size - 1]!.2):=by
 have c:=NL.of_set h
 constructor
 .rintro g ⟨k,l⟩
  have:=g (d.size - 1) jo
  omega
 intro g j b;rcases val j (d.size - 1) with a | e
 .have i:=vbp.1 c.2 j (d.size - 1) (by simpa using b) jso a
  have f:=c.1 (d[d.size - 1]!) (by rw [vae d (d.size - 1) jo];simp);rw [vae d j b];rw [vae d (d.size - 1) jo] at f g;simp only [Array.getElem_toList] at i
  have:¬ 99999 < d[d.size - 1].2:=fun h=>g ⟨by omega,h⟩
  omega
 obtain rfl:j=d.size - 1:=by omega
 have:¬ 99999 < d[d.size - 1]!.2:=fun h=>g ⟨by omega,h⟩
 omega
theorem zaz (d:Array (Int×Int)):qiy d=false↔qam d=0/\∀ j,j < d.size->d[j]!.2<=99999:=by
 unfold qiy;by_cases h:qam d=0
 .rw [set_last h]
  simp [h]
 have a:(qam d != 0)=true:=bne_iff_ne.2 h;simp [h,a]
theorem qgu {n:Nat} {p:Nat->Bool}:anyN n p=false↔∀ j,j < n->p j=false:=by
 constructor
 .intro h j a
  cases b:p j
  .rfl
  rw [qlq j a b] at h;cases h
 exact qpy
theorem qbo (r:RP):chkR r=true↔RckA r (qlo r.n r.f) (clkE r.clock r.floor r.o.z) (tabE r.e.z) (qea r.m.z r.n) (qas r.fr.z r.n)/\RckB r (fun i=>chkE r.k.z[i]!.kn) (fun i=>qam r.d.z[i]!.z)/\RckC r:=by
 have x:=qvp r.n r.f;have y:clkE r.clock r.floor r.o.z=0↔clkB r.clock r.floor r.o.z=true:=by unfold clkE;cases clkB r.clock r.floor r.o.z <;> simp
 have z:tabE r.e.z=0↔chkT r.e.z=true:=by unfold tabE;cases chkT r.e.z <;> simp
 have A:qea r.m.z r.n=0↔qey r.m.z r.n=true:=by unfold qea;cases qey r.m.z r.n <;> simp
 have B:∀ k:KN,chkE k=0↔chkB k=true:=fun k=>by unfold chkE;cases chkB k <;> simp
 unfold chkR qko qzq qov finB RckA RckB RckC lastB;simp only [vav,vap,vdv,qgu,farB,vat,zaz,Bool.not_eq_false',x,y,z,A,B]
 constructor
 .rintro ⟨⟨⟨⟨⟨⟨a,b⟩,c⟩,d⟩,e,f⟩,⟨⟨g,i⟩,j⟩,k⟩,⟨l,m⟩,n⟩
  exact ⟨⟨a,b.1,b.2,d,c.1,c.2.1,c.2.2.1,c.2.2.2.1,c.2.2.2.2.1,c.2.2.2.2.2,e,g,j,k,l⟩,⟨fun q h=>Int.not_lt.1 (f q h),fun q h=>⟨i q h,(m q jo).1,(m q jo).2⟩⟩,n⟩
 rintro ⟨⟨a,o,p,d,s,t,u,c4,c5,v,e,g,j,k,l⟩,⟨f,i⟩,n⟩;exact ⟨⟨⟨⟨⟨⟨a,o,p⟩,s,t,u,c4,c5,v⟩,d⟩,e,fun q h=>Int.not_lt.2 (f q h)⟩,⟨⟨g,fun q h=>(i q h).1⟩,j⟩,k⟩,⟨l,fun q h=>(i q jo).2⟩,n⟩
theorem qdh {r:RP} (h:chkR r=true):repE r=0:=by unfold repE;rw [vam h]
theorem qev {r:RP} (h:¬ chkR r=true):repE r=2:=by unfold repE;rw [vao h]
theorem qcx (r:RP) (w:World) (h:RdP w r) (b:FewC r) :
 Calls prog 15 #[.agg (encP r).toArray] w fun e c=>e=.returned (.int .i64 (repE r))/\Below w.heap.size w c :=
 qta r w _ _ _ _ (fun W a=>qzt r W (h.below a) (jg b.o)) (fun W a=>cmds_any r W (h.below a) b) (fun W a=>hears_any r W (h.below a) b) (fun W a=>fin_any r W (h.below a) b)
theorem qfe (r:RP) (w:World) (h:RdP w r) (g:FewC r) :
 Calls prog 48 #[.agg (encP r).toArray] w fun e l=>e=.returned (.int .i64 (repE r))/\Below w.heap.size w l:=by
 have d:=qbo r;refine qqq r w (qlo r.n r.f) (zax r.n r.f) (zay r.n r.f) (clkE r.clock r.floor r.o.z) (tabE r.e.z) (qea r.m.z r.n) (qas r.fr.z r.n) (fun i=>chkE r.k.z[i]!.kn) (fun i=>qam r.d.z[i]!.z) (repE r)
  h.e.rd h.k.rd h.d.rd (fun i d=>(h.dd i d).rd) ⟨by have:=g.es;omega,by have:=g.k;omega,by have:=g.d;omega⟩ g.dd ?_ ?_ ?_ ?_ ?_ ?_ ?_ ?_ ?_ ?_ ?_
 .exact fun W _=>(qtc _ _ W).mono fun _ _ ⟨j,k⟩=>⟨j,k ▸ vag _ _⟩
 .exact fun W f=>rClk_any _ _ _ _ _ W (h.o.below f).rd (jg g.o)
 .exact fun W f=>qtx _ _ _ W ((h.below f).tab g)
 .exact fun W f=>qpz _ _ _ _ W (h.m.below f).rd (fun i d=>(h.mm i d).below f) (jg g.m) (fun i d=>by have:=g.mm i d;omega)
 .exact fun W f=>(qel _ _ _ _ _ W (h.fr.below f).rd (jg g.fr)).mono fun _ _ ⟨j,k⟩=>⟨j,k ▸ vag _ _⟩
 .exact fun i d W f=>qyl _ _ W ((h.kk i d).below f).knV
 .exact fun i d W f=>(qdw _ _ _ _ W ((h.dd i d).below f).rd).mono fun _ _ ⟨j,n,k⟩=>⟨j,k ▸ qaj (vag _ _) n⟩
 .exact fun a b c=>qdh (d.2 ⟨a,b,c⟩)
 .exact fun a=>qev fun h=>a (d.1 h).1
 .exact fun a=>qev fun h=>a (d.1 h).2.1
 exact fun a=>qev fun h=>a (d.1 h).2.2
theorem few25_any (r:RP) (w:World) (h:RdP w r) :
 Calls prog 6 #[.agg (encP r).toArray] w fun e o=>e=.returned (.bool (fewR r))/\Below w.heap.size w o:=by
 have l:fewR r=true↔(FewA r (fewT r.e.z) (fewM r.m.z)/\(∀ i,i < r.k.z.size->fewK r.k.z[i]!.kn=true)/\(∀ i,i < r.d.z.size->r.d.z[i]!.z.size<=100)/\r.it.z.size<=60/\r.ss.z.size<=60):=by
  rw [qwr];exact ⟨fun h=>⟨⟨h.e,h.o,h.k,h.m,h.fr,h.d⟩,h.kk,h.dd,h.it,h.ss⟩,fun ⟨⟨a,b,c,d,e,f⟩,g,i,j,k⟩=>⟨a,b,c,d,e,f,g,i,j,k⟩⟩
 refine zav r w (fewT r.e.z) (fewM r.m.z) (fun i=>fewK r.k.z[i]!.kn) (fewR r) h.k.rd h.d.rd ?_ ?_ ?_ ?_ ?_ ?_ ?_
 .exact fun W m=>few21_any _ _ _ W (h.e.below m)
 .exact fun W m=>few18_any _ _ _ W (h.m.below m).rd
 .exact fun i l W m=>Few16_any _ _ W ((h.kk i l).below m).knV
 .intro a b c
  by_cases n:r.it.z.size<=60/\r.ss.z.size<=60
  .rw [vah n];exact l.2 ⟨a,b,c,n⟩
  rw [vab n];exact vbi.2 fun h=>n (l.1 h).2.2.2
 .exact fun a=>vbi.2 fun h=>a (l.1 h).1
 .exact fun a=>vbi.2 fun h=>a (l.1 h).2.1
 exact fun a=>vbi.2 fun h=>a (l.1 h).2.2.1
theorem chkR_d {r:RP} (h:chkR r=true):(r.d.z.size:Int)=r.n:=((qbo r).1 h).1.2.2.2.2.2.2.2.2.2.2.2.2.2.2
theorem repE_0 {r:RP} (h:repE r=0):chkR r=true:=by
 cases a:chkR r
 .rw [qev (by simp [a])] at h;cases h
 rfl
def doneB (r:RP) (id:Int):Bool:=chkR r && doneI r id
theorem rDone_any (r:RP) (id:Int) (w:World) (h:RdP w r) (a:FewC r) :
 Calls prog 107 #[.agg (encP r).toArray,.int .i64 id] w fun e f=>e=.returned (.bool (doneB r id))/\Below w.heap.size w f:=by
 have:=zaw r id w (repE r) h.d.rd (fun i d=>(h.dd i d).rd) (fun b=>chkR_d (repE_0 b)) (jg a.d) (fun W c=>qfe r W (h.below c) a)
 rw [qzr] at this;exact this
def sameM (m1 m2:Array (RW Int)):Bool:=allN m1.size m2.size fun i=>decide (m1[i]!.z=m2[i]!.z)
def sameD (m1 m2:Array (RW (Int×Int))):Bool:=allN m1.size m2.size fun i=>decide (m1[i]!.z=m2[i]!.z)
def sameKs (m1 m2:Array KE):Bool:=allN m1.size m2.size fun i=>qra m1[i]!.kn m2[i]!.kn
def qtd (a b:RP):Bool:=decide (qqu a b) && (qnx a.e.z b.e.z && decide (a.o.z=b.o.z) && sameKs a.k.z b.k.z && sameM a.m.z b.m.z && decide (a.fr.z=b.fr.z) && sameD a.d.z b.d.z)
theorem drewB {w w':World}:(∃ n,w'=w.drewN n)->Below w.heap.size w w':=by
 rintro ⟨n,rfl⟩;exact qaj (vag _ _) n
theorem qvq (a b:RP) (w:World) (c:RdP w a) (d:RdP w b) (j:FewC a) (k:FewC b) :
 Calls prog 11 #[.agg (encP a).toArray,.agg (encP b).toArray] w fun e p=>e=.returned (.bool (qtd a b))/\Below w.heap.size w p :=
 qtg a b w _ _ _ _ _ _
  (fun W h=>qvx _ _ _ _ _ _ W ((c.below h).tab j) ((d.below h).tab k))
  (fun W h=>(qiw _ _ _ _ _ _ _ W (c.o.below h).rd (d.o.below h).rd (jg j.o) (jg k.o)).mono fun _ _ ⟨l,m⟩=>⟨l,drewB m⟩)
  (fun W h=>qzn (fun i=>qra a.k.z[i]!.kn b.k.z[i]!.kn) _ _ _ _ _ _ W (c.k.below h).rd (d.k.below h).rd (jg j.k) (fun i n f o g=>qtu _ _ _ _ o (((c.kk i n).below h).below g).knV (((d.kk i f).below h).below g).knV (by have:=(j.kk i n).1;simp only [KE.kn];omega) (by have:=(j.kk i n).2;simp only [KE.kn];omega) (by have:=(k.kk i f).1;simp only [KE.kn];omega) (by have:=(k.kk i f).2;simp only [KE.kn];omega)))
  (fun W h=>rSame18 (fun i=>decide (a.m.z[i]!.z=b.m.z[i]!.z)) _ _ _ _ _ _ W (c.m.below h).rd (d.m.below h).rd (jg j.m) (fun i n f o g=>(qgk _ _ _ _ _ _ _ _ o (((c.mm i n).below h).below g).rd (((d.mm i f).below h).below g).rd (by have:=k.mm i f;omega)).mono fun _ _ ⟨l,m⟩=>⟨l,drewB m⟩))
  (fun W h=>(qgk _ _ _ _ _ _ _ _ W (c.fr.below h).rd (d.fr.below h).rd (jg k.fr)).mono fun _ _ ⟨l,m⟩=>⟨l,drewB m⟩)
  (fun W h=>rSameDone (fun i=>decide (a.d.z[i]!.z=b.d.z[i]!.z)) _ _ _ _ _ _ W (c.d.below h).rd (d.d.below h).rd (jg j.d) (fun i n f o g=>(qpa _ _ _ _ _ _ _ _ o (((c.dd i n).below h).below g).rd (((d.dd i f).below h).below g).rd (by have:=k.dd i f;omega)).mono fun _ _ ⟨l,m⟩=>⟨l,drewB m⟩))
section
attribute [local go_sem ↓] qap qan
attribute [local go_sem] qaw qej
def fcs (n:Nat) (f:Nat->Int) (k:Nat):Array Value:=((List.range n).map fun t=>if t < k then Value.int .i64 (f t) else .int .i64 0).toArray
theorem qte (n:Nat) (f:Nat->Int) (k t:Nat):(fcs n f k)[t]?=if t < n then some (if t < k then Value.int .i64 (f t) else .int .i64 0) else none:=by
 unfold fcs;by_cases h:t < n <;> simp [h]
theorem fcs_set (n:Nat) (f:Nat->Int) (k:Nat):(fcs n f k).setIfInBounds k (.int .i64 (f k))=fcs n f (k + 1):=by
 apply ven;intro t;rw [vbb,qte,qte];have c:(fcs n f k).size=n:=by simp [fcs]
 by_cases h:k=t
 .subst h
  rw [vam rfl,c,vam (vcr k)]
 rw [vao h];by_cases a:t < n
 .rw [vam a,vam a]
  by_cases b:t < k
  .rw [vam b,vam jo]
  rw [vao b,vao jo]
 rw [vao a,vao a]
theorem fcs_all (d:Array Int):fcs d.size (fun j=>d[j]!) d.size=d.map qdq:=by
 apply ven;intro t;rw [qte];by_cases h:t < d.size <;> simp [h,qdq]
theorem fcs_0 (n:Nat) (f:Nat->Int):((List.range n).map fun _=>Value.int .i64 0).toArray=fcs n f 0:=by unfold fcs;simp
def qce (d:Array KE):Array Int:=d.map (·.base)
theorem qbm (d:Array KE):(qce d).size=d.size:=by simp [qce]
theorem qgv (d:Array KE) {j:Nat} (h:j < d.size):(qce d)[j]! = d[j]!.base:=by
 rw [vae _ j (by rw [qbm];exact h),vae d j h];simp [qce]
def qee (r:RP):Array Int:=if chkR r=true then qce r.k.z else #[]
def MarkQ (r:RP) (e:Ending) (w':World):Prop:=∃ x:RW Int,e=.returned x.v/\x.z=qee r/\RdJ w' x
theorem markQ_nil {r:RP} (h:chkR r=false) (w':World):MarkQ r (.returned (.slice none 0 0)) w' :=
 ⟨⟨none,0,#[]⟩,rfl,by unfold qee;rw [h];rfl,⟨fun a=>absurd a jd,vaa _,fun _=>rfl⟩⟩
def MarkN (r:RP) (B:Nat) (e:Ending) (w':World):Prop:=∃ x:RW Int,e=.returned x.v/\x.z=qee r/\RdJ w' x/\∀ p,x.A=some p->B<=p.block
theorem markN_nil {r:RP} (h:chkR r=false) (B:Nat) (w':World):MarkN r B (.returned (.slice none 0 0)) w' :=
 ⟨⟨none,0,#[]⟩,rfl,by unfold qee;rw [h];rfl,⟨fun a=>absurd a jd,vaa _,fun _=>rfl⟩,fun _ h=>by cases h⟩
theorem qgf {r:RP} (h:chkR r=true):(r.k.z.size:Int)=r.n:=((qbo r).1 h).1.2.2.2.2.2.2.2.2.2.2.2.1
theorem qlh (r:RP) (w:World) (h:RdP w r) (F:FewC r) :
 Calls prog 18 #[.agg (encP r).toArray] w fun e B=>MarkN r w.heap.size e B/\Below w.heap.size w B:=by
 have o:Hid (∀ W,Below w.heap.size w W->Calls prog 15 #[.agg (encP r).toArray] W fun e B=>e=.returned (.int .i64 (repE r))/\Below W.heap.size W B):=fun W l=>qcx r W (h.below l) F
 have q:=hI h.k.rd;obtain ⟨A,E⟩:∃ A,r.k.A=A:=⟨_,rfl⟩
 rw [E] at q;obtain ⟨g,a⟩:∃ g,g=(encP r).toArray:=⟨_,rfl⟩
 have M:g.size=18:=by rw [a];rfl
 have U:g[9]?=some (.slice A r.k.z.size r.k.c):=by rw [a,<-E];rfl
 have z:g[0]?=some (.int .i64 r.n):=by rw [a];rfl
 have D:=hI U;have S:=F.k;rw [<-a] at o |-
 simp only [encP] at a;rw [a];clear h F E U;cases m:chkR r
 .rw [qev (by simp [m])] at o
  have Z:=hI (markN_nil m w.heap.size);clear m z;go_in;rw [<-a];clear a;have c:=hI (BoxR.init w g 35);have V:=c.out.box M;have X:=c.out.rowAt;go_wp2_with (go_at_call 15;refine (o.out _ c.out.b).mono ?_;rintro _ w1 ⟨rfl,l⟩;have c:=hI (c.out.next l);clear l);go_ret;exact ⟨Z.out _,c.out.b⟩
 rw [qdh m] at o;have s:=qgf m;have HM:Hid (qee r=qce r.k.z):=by show _=_;unfold qee;rw [vam m]
 rw [<-s] at z;have C:=hI z;have J:=fun W=>qml r.k.z.size jo W
 clear m z s;go_in;rw [<-a];clear a;have c:=hI (BoxR.init w g 35);have V:=c.out.box M;have X:=c.out.rowAt;go_wp2_with (go_at_call 15;refine (o.out _ c.out.b).mono ?_;rintro _ w1 ⟨rfl,l⟩;have c:=hI (c.out.next l);clear l V X;have c0:=c.out.at_ 0 C.out;have c9:=c.out.at_ 9 D.out;have u:=c.out.lt);clear J c0 c9;have d:=hI c.out.b;have a0:=hI c.out.lt;clear c u
 go_loopw [15] (fun i wr=>∃ k:Nat,i=.int .i64 k/\k<=r.k.z.size/\Hid (wr.heap[w1.heap.size]?=some (.cells (fcs r.k.z.size (fun j=>r.k.z[j]!.base) k) 3 (0,0)))/\Hid (Below w1.heap.size w1 wr)) (fun i _=>r.k.z.size - (intOf i).toNat)
 case atStart=>exact ⟨0,rfl,vaj _,hI (by rw [fcs_0 _ (fun j=>r.k.z[j]!.base)];exact vaw w1 _),hI (bel1 w1 _)⟩
 case round =>
  obtain ⟨k,rfl,hk,n,v⟩:=hrel;by_cases I:k < r.k.z.size
  .have kz:(k:Int) < (r.k.z.size:Int):=by omega
   obtain ⟨b,a2,rfl,a1,f⟩:=(q.out.below (qaa d.out v.out)).at_ (i:=k) jo;have P:=f 0 jo;have Q:=f 1 jo;have R:=f 2 jo;have N:=hI (fcs_set r.k.z.size (fun j=>r.k.z[j]!.base) k);have cg:wr.cell? ⟨w1.heap.size,k,none⟩=some (.int .i64 0):=by
    rw [vas wr _ k _ _ (0,0) n.out,qte,vam I,vao jo]
   have fg:wr.frozen? ⟨w1.heap.size,k,none⟩=false:=by
    have:=n.out
    simp [World.frozen?,this]
   have H:w1.heap.size < wr.heap.size:=qcj n.out;obtain ⟨x,L⟩:∃ x,r.k.z[k]! = x:=⟨_,rfl⟩
   rw [L] at P Q R;simp only [L] at N;clear f L;simp only [vak,qav,vac,vaf] at P Q R;obtain ⟨G,y⟩:∃ G,w1.heap.size=G:=⟨_,rfl⟩
   rw [y] at cg fg H n |-
   rw [y] at v;have HG:=hI y;clear y;go_wp2;go_roundw
   case rel =>
    refine ⟨k + 1,by go_num,by omega,hI ?_,hI ?_⟩
    .rw [<-N.out];exact blk_put n.out _ k _
    exact (v.out.setCell (p:=⟨G,k,none⟩) (vaa _) _).alloc jso _
   case measure=>simp [intOf];omega
  have T:decide ((k:Int) < (r.k.z.size:Int))=false:=by simp;omega
  have Y:Hid (wr.heap[w1.heap.size]?=some (.cells ((qce r.k.z).map qdq) 3 (0,0))):=by
   show _=_;rw [n.out,<-fcs_all,qbm]
   have:k=r.k.z.size:=by omega
   rw [this];congr 2;unfold fcs;congr 1;refine List.map_congr_left fun t ht=>?_
   simp only [qgv _ (vbv.1 ht)]
  have O:=hI (qbm r.k.z);go_wp2;go_ret;refine ⟨⟨⟨some ⟨w1.heap.size,0,none⟩,r.k.z.size,qce r.k.z⟩,?_,HM.out.symm,⟨qtt Y.out,by rw [O.out];exact vaa _,fun h=>by cases h⟩,fun p K=>by injection K with K;rw [<-K];exact d.out.size⟩,qaa d.out v.out⟩;unfold RW.v;rw [O.out];rfl
theorem qnj (r:RP) (w:World) (h:RdP w r) (g:FewC r) :
 Calls prog 18 #[.agg (encP r).toArray] w fun e d=>MarkQ r e d/\Below w.heap.size w d :=
 (qlh r w h g).mono fun _ _ ⟨⟨x,a,b,c,_⟩,f⟩=>⟨⟨x,a,b,c⟩,f⟩
theorem bas_take (d:Array KE) {k:Nat} (h:k < d.size):(qce d).toList.take (k + 1)=(qce d).toList.take k ++ [d[k]!.base]:=by
 have a:=qbm d;rw [vdb,vbl (by simpa [a] using h)]
 have:=qgv d h
 rw [vae _ k (by rw [a];exact h)] at this;simp [<-this]
theorem qtf (r:RP) (w:World) (h:RdP w r) (T:FewC r) :
 Calls prog 109 #[.agg (encP r).toArray] w fun e K=>MarkQ r e K/\Below w.heap.size w K:=by
 obtain ⟨i0,U,V,X,Y⟩:=vbo qcc;have B:Hid (∀ W,Below w.heap.size w W->Calls prog 48 #[.agg (encP r).toArray] W fun e K=>e=.returned (.int .i64 (repE r))/\Below W.heap.size W K):=fun W m=>qfe r W (h.below m) T
 have C:=hI h.k.rd;obtain ⟨A,R⟩:∃ A,r.k.A=A:=⟨_,rfl⟩
 rw [R] at C;obtain ⟨o,a⟩:∃ o,o=(encP r).toArray:=⟨_,rfl⟩
 have HI:o.size=18:=by rw [a];rfl
 have q9:o[9]?=some (.slice A r.k.z.size r.k.c):=by rw [a,<-R];rfl
 have q:=hI q9;have a0:=T.k;rw [<-a] at B |-
 simp only [encP] at a;rw [a];clear h T R q9;cases y:chkR r
 .rw [qev (by simp [y])] at B
  have Z:=hI (markQ_nil y);clear y;go_in;rw [<-a];clear a;have c:=hI (BoxR.init w o 35);go_wp2
  go_loopw [3,4] (fun v i wr=>v=.slice none 0 0/\i=.int .i64 0/\Hid (BoxR w o 35 wr)) (fun _ _ _=>0)
  case atStart=>exact ⟨rfl,rfl,c⟩
  case round =>
   obtain ⟨rfl,rfl,c⟩:=hrel;have x1:=c.out.box HI;have x2:=c.out.rowAt;have Q:=c.out.at_ 9 q.out;by_cases h0:0 < r.k.z.size
   .go_wp2_with (go_at_call 48;refine (B.out _ c.out.b).mono ?_;rintro _ w1 ⟨rfl,m⟩;have c:=hI (c.out.next m);clear m)
    go_ret;exact ⟨Z.out _,c.out.b⟩
   have a3:r.k.z.size=0:=by omega
   go_wp2;go_ret;exact ⟨Z.out _,c.out.b⟩
 rw [qdh y] at B;have HM:Hid (qee r=qce r.k.z):=by show _=_;unfold qee;rw [vam y]
 clear y;go_in;rw [<-a];clear a;have c:=hI (BoxR.init w o 35);go_wp2;obtain ⟨w1,F⟩:∃ W,W=w.alloc (.cells o 35):=⟨_,rfl⟩
 rw [<-F] at c |-
 clear F
 go_loopw [3,4] (fun v i wr=>∃ (k:Nat) (l:List Int),i=.int .i64 k/\k<=r.k.z.size/\l.length=k/\Hid (l=(qce r.k.z).toList.take k)/\wr.ownsRow w1.heap.size 3 1 v l.length (l.map (Value.int .i64))/\Hid (Below w1.heap.size w1 wr)) (fun _ i _=>r.k.z.size - (intOf i).toNat)
 case atStart=>exact ⟨0,[],rfl,vaj _,rfl,rfl,vcj _ _ _ _,vag _ _⟩
 case round =>
  obtain ⟨k,l,rfl,hk,J,N,d,L⟩:=hrel;have j:=hI (c.out.next L.out);have x1:=j.out.box HI;have x2:=j.out.rowAt;have Q:=j.out.at_ 9 q.out;by_cases t:k < r.k.z.size
  .have kz:(k:Int) < (r.k.z.size:Int):=by omega
   have HS:Hid ((qce r.k.z).toList.take (k + 1)=l ++ [r.k.z[k]!.base]):=by show _=_;rw [bas_take _ t,<-N.out]
   obtain ⟨b,I,rfl,S,f⟩:=C.out.at_ (i:=k) jo;have E:=f 0 jo;obtain ⟨x,hx⟩:∃ x,r.k.z[k]! = x:=⟨_,rfl⟩
   rw [hx] at E HS;clear hx f;simp only [vak,qav,vac] at E;have M:Hid (∀ W,Below w.heap.size w W->W.cell? ⟨b,I + k * 3,none⟩=some (.int .i64 x.base)):=fun W m=>(m.cell (p:=⟨b,I + k * 3,none⟩) S).trans E
   clear E
   go_wp2_with (first
    | (go_at_call 48;refine (B.out _ j.out.b).mono ?_;rintro _ w2 ⟨rfl,m⟩;have D:=hI (j.out.next m);have z:=hI (qaa L.out m);have n:=hI (qei d (fun g _ J=>m.block g J));clear m d x1 x2 Q;have Q:=D.out.at_ 9 q.out;have E:=M.out _ D.out.b)
    | (at_builtin;refine vay _ rfl _ _ 26 rfl w1.heap.size 3 i0 (.int .i64 0) 1 8 underlying26 U V X Y rfl jd _ _ _ rfl (World.ownsRow.alloc n.out _) ⟨w2.heap.size,0,none⟩ 1 1 [.int .i64 x.base] rfl rfl (qdr _ _ _) jV jl jo (vax z.out.size js) ?_;intro v' w3 u s _))
   go_roundw
   case rel=>exact ⟨k + 1,l ++ [x.base],by go_num,by omega,by simp [J],hI HS.out.symm,qir u,hI (qcr z.out n.out s)⟩
   case measure=>simp [intOf];omega
  have a1:decide ((k:Int) < (r.k.z.size:Int))=false:=vab jo;have a2:decide (k < r.k.z.size)=false:=vab t;have HE:Hid (l=(qce r.k.z).toList):=by
   show _=_;rw [N.out,vaz]
   have:=qbm r.k.z
   simp;omega
  obtain ⟨x,rfl,H,G⟩:=qcf d;have P:=hI H;have O:=hI G;clear H G d N J t;go_wp2;go_ret;exact ⟨⟨x,rfl,by rw [P.out,HE.out,HM.out],O.out⟩,qaa c.out.b L.out⟩
end
theorem up_all {d:Array (Int×Int)} (h:∀ i,i < d.size->0 < i->d[i - 1]!.1 < d[i]!.1):∀ j i,i < j->j < d.size->d[i]!.1 < d[j]!.1:=by
 intro j
 induction j with
 | zero=>intro i a;omega
 | succ j ih =>
   intro i a e;have c:=h (j + 1) e jo;rw [vem] at c;rcases val i j with b | b
   .have:=ih i b jo;omega
   obtain rfl:i=j:=by omega
   exact c
theorem qke (d:Array (Int×Int)) {i:Nat} (hi:i < d.size):d.toList[i]'(by simpa using hi)=d[i]!:=by
 rw [vae d i hi];simp
theorem qit {l floor:Int} {d:Array (Int×Int)}:clkB l floor d=true↔(0<=floor/\floor<=l/\l<=1000000)/\d.toList.Pairwise (fun x y=>x.1 < y.1)/\(∀ x ∈ d.toList,floor < x.1/\x.1<=l/\okI x.2=true)/\(d.toList.map (·.2)).Nodup:=by
 rw [qmw]
 constructor
 .rintro ⟨h,g⟩
  have p:∀ i,i < d.size->(floor < d[i]!.1/\(0 < i->d[i - 1]!.1 < d[i]!.1)/\d[i]!.1<=l)/\(10<=d[i]!.2/\d[i]!.2<=999999/\d[i]!.2 % 10≠0)/\¬ (idsU d i).contains d[i]!.2=true:=fun i f=>by
   have:=g i f
   unfold qiu at this;simp only [vav,vap,vdv,vdr] at this |-
   exact ⟨this.1.1,this.1.2,this.2⟩
  have t:=up_all (d:=d) (fun i f u=>(p i f).1.2.1 u);refine ⟨h,?_,?_,?_⟩
  .rw [vbp]
   intro i j f o n;have k:i < d.size:=by simpa using f
   have m:j < d.size:=by simpa using o
   rw [qke d k,qke d m];exact t j i n m
  .intro x C
   obtain ⟨i,f,rfl⟩:=vbt.1 C;have k:i < d.size:=by simpa using f
   rw [qke d k];obtain ⟨a,b,_⟩:=p i k;exact ⟨a.1,a.2.2,by unfold okI;exact vah b⟩
  unfold List.Nodup;rw [vdt,vbp];intro i j f o n v;have k:i < d.size:=by simpa using f
  have m:j < d.size:=by simpa using o
  rw [qke d k,qke d m] at v;exact (p j m).2.2 ((qij jo).2 ⟨i,n,v⟩)
 rintro ⟨h,z,A,s⟩;refine ⟨h,fun i f=>?_⟩;have B:d[i]! ∈ d.toList:=by rw [vae d i f];simp
 obtain ⟨a,b,c⟩:=A _ B;unfold okI at c;have q:(idsU d i).contains d[i]!.2=false:=by
  rw [vbi];intro q;obtain ⟨j,o,e⟩:=(qij jo).1 q;unfold List.Nodup at s;rw [vdt,vbp] at s;refine s j i jso jso o ?_;rw [qke d jo,qke d f];exact e
 unfold qiu;have r:((d.toList.take i).map Prod.snd).contains d[i]!.2=false:=q;rw [r,c,Bool.and_true,vah (show floor < d[i]!.1/\(0 < i->d[i - 1]!.1 < d[i]!.1)/\d[i]!.1<=l from ⟨a,fun u=>?_,b⟩)]
 .rfl
 rw [vbp] at z
 have:=z (i - 1) i jso jso jo
 rwa [qke d jo,qke d f] at this
theorem qnk {k:KN} {d floor:Int} {own:Array (Int×Int)} (g:ChkP k) (f:clkB d floor own=true):AddA k floor d own:=by
 obtain ⟨⟨a,b,c⟩,h,e,_⟩:=qit.1 f;exact ⟨g,a,b,c,(qbs _ _ _).2 ⟨h,e⟩⟩
def qnl (own:Array (Int×Int)) (floor:Int):Array (Int×Int):=(own.toList.filter fun a=>!decide (a.1<=floor)).toArray
theorem clk_kept {d floor e:Int} {own:Array (Int×Int)} (j:clkB d floor own=true) (n:floor<=e) (h:e<=d):clkB d e (qnl own e)=true:=by
 obtain ⟨⟨a,b,c⟩,k,i,f⟩:=qit.1 j;refine qit.2 ⟨⟨by omega,h,c⟩,?_,?_,?_⟩
 .show List.Pairwise _ (List.filter _ _)
  exact k.filter _
 .intro x l
  have g:x ∈ own.toList.filter fun a=>!decide (a.1<=e):=l
  obtain ⟨m,q⟩:=vck.1 g
  have:=i x m
  simp at q;exact ⟨q,this.2⟩
 show List.Nodup (List.map _ (List.filter _ _));unfold List.Nodup at f |-
 rw [vdt] at f |-
 exact f.filter _
theorem qay {d:Array Int} {n:Int}:qas d n=0↔qgj n≠0/\(d.size:Int)=n/\∀ x ∈ d.toList,0<=x/\x<=1000000:=by
 unfold qas qdn;by_cases h:qgj n=0
 .simp [h]
 by_cases c:(d.size:Int)=n
 .by_cases b:(d.toList.any fun t=>decide (t < 0\/1000000 < t))=true
  .rw [vam (Or.inr (Or.inr b))]
   simp only [vca,vap] at b;obtain ⟨x,f,b⟩:=b
   constructor
   .intro e;cases e
   rintro ⟨_,_,g⟩
   have:=g x f
   omega
  rw [vao (by rintro (a | a | a);exact h a;exact a c;exact b a)];refine ⟨fun _=>⟨h,c,fun x f=>?_⟩,fun _=>rfl⟩;refine Classical.byContradiction fun i=>b ?_
  simp only [vca,vap];exact ⟨x,f,by omega⟩
 rw [vam (Or.inr (Or.inl c))]
 constructor
 .intro e;cases e
 rintro ⟨_,g,_⟩;exact absurd g c
theorem qfn {d d2:Array Int} {n:Int} (j:qas d n=0) (k:qas d2 n=0):qas (qcd d d2) n=0:=by
 obtain ⟨a,b,c⟩:=qay.1 j;obtain ⟨_,o,h⟩:=qay.1 k;refine qay.2 ⟨a,by rw [qcw];omega,fun x m=>?_⟩;obtain ⟨i,l,rfl⟩:=vbt.1 m;have f:i < (qcd d d2).size:=by simpa using l
 have g:i < max d.size d2.size:=by rwa [qcw] at f
 have e:(qcd d d2).toList[i]=qfm d d2 i:=by
  have:=qso d d2 i g
  rw [vae _ i f] at this;simpa using this
 rw [e];unfold qfm;rw [vam jo,vam jo];have p:=c d[i]! (by rw [vae d i jo];simp);have q:=h d2[i]! (by rw [vae d2 i jo];simp);omega
theorem qkf {α:Type} [Inhabited α] {d:Array α} {x:α} (h:x ∈ d.toList):∃ i,i < d.size/\d[i]! = x:=by
 obtain ⟨i,b,rfl⟩:=vbt.1 h;have a:i < d.size:=by simpa using b
 exact ⟨i,a,by rw [vae d i a];simp⟩
theorem qji {k:Array KE} {n:Int} (d:3<=n/\n<=9) (b:(k.size:Int)=n) (h:∀ i,i < k.size->chkB k[i]!.kn=true):qas (qce k) n=0:=by
 refine qay.2 ⟨?_,by rw [qbm];exact b,fun x c=>?_⟩
 .unfold qgj
  first | (rw [vam jo];omega) | (rw [vao jo];omega) | (split <;> omega)
 obtain ⟨i,a,rfl⟩:=qkf c;rw [qbm] at a;rw [qgv k a]
 have:=qco.1 (h i a)
 exact ⟨this.b0,this.b1⟩
def overB (r:RP) (id:Int):Bool:=(r.e.z.toList.any fun x=>qkb x.ph && (x.id == id)) || doneI r id
def qnm (r:RP) (k:KN) (ids:Array Int):Prop:=∀ x,x ∈ ids.toList↔(x ∈ k.ats.toList.map (·.2)/\overB r x=true)
def colM (m:Array (RW Int)) (c:Nat):Array Int:=m.map fun x=>x.z[c]!
structure RefR (r s:RP):Prop where
 eq:s={ r with k:=s.k,m:=s.m,floor:=s.floor,o:=s.o }
 ks:s.k.z.size=r.k.z.size
 kk:∀ i,i < r.k.z.size->∃ k1 ids,(if (i:Int) + 1=r.self then AddR r.k.z[i]!.kn r.floor r.clock r.o.z k1 else k1=r.k.z[i]!.kn)/\qnm r k1 ids/\SetR k1 ids s.k.z[i]!.kn
 ms:s.m.z.size=r.m.z.size
 mm:∀ i,i < r.m.z.size->s.m.z[i]!.z=if (i:Int) + 1=r.self then qcd r.m.z[i]!.z (qce s.k.z) else r.m.z[i]!.z
 floor:s.floor=max r.floor (min (qcl (colM s.m.z (r.self.toNat - 1))) r.clock)
 o:s.o.z=qnl r.o.z s.floor
structure FewM (r:RP):Prop where
 c:FewC r
 k:∀ i,i < r.k.z.size->r.k.z[i]!.r.z.size<=500/\r.k.z[i]!.a.z.size<=400
 s:∀ i,i < r.k.z.size->(i:Int) + 1=r.self->r.k.z[i]!.r.z.size<=150/\r.k.z[i]!.a.z.size<=150
 o:r.o.z.size<=150
theorem FewP.m' {r:RP} (h:FewP r):FewM r :=
 have b:∀ i,i < r.k.z.size->r.k.z[i]!.r.z.size<=100/\r.k.z[i]!.a.z.size<=100:=fun i a=>qpx.1 (h.kk i a)
 ⟨h.c,fun i a=>by have:=b i a;omega,fun i a _=>by have:=b i a;omega,by have:=h.o;omega⟩
theorem qfo {r:RP} (h:chkR r=true):clkB r.clock r.floor r.o.z=true:=by
 have a:clkE r.clock r.floor r.o.z=0:=((qbo r).1 h).1.2.2.2.1;unfold clkE at a;cases b:clkB r.clock r.floor r.o.z
 .rw [b] at a;cases a
 rfl
theorem qie {r:RP} (h:chkR r=true):∀ i,i < r.k.z.size->chkB r.k.z[i]!.kn=true:=fun i c=>by
 have a:chkE r.k.z[i]!.kn=0:=(((qbo r).1 h).2.1.2 i c).1;unfold chkE at a;cases b:chkB r.k.z[i]!.kn
 .rw [b] at a;cases a
 rfl
theorem qew {r:RP} (h:chkR r=true):(3<=r.n/\r.n<=9)/\1<=r.self/\r.self<=r.n:=by
 obtain ⟨a,b,c,_⟩:=((qbo r).1 h).1
 have:=(qvp _ _).1 a
 unfold qfd at this;exact ⟨⟨this.1,this.2.1⟩,b,c⟩
theorem qex {r:RP} (h:chkR r=true):qey r.m.z r.n=true:=by
 have a:qea r.m.z r.n=0:=((qbo r).1 h).1.2.2.2.2.2.2.2.2.2.2.2.2.1;unfold qea at a;cases b:qey r.m.z r.n
 .rw [b] at a;cases a
 rfl
theorem qci {m:Array (RW Int)} {n:Int}:qey m n=true↔(3<=n/\n<=9)/\(m.size:Int)=n/\∀ i,i < m.size->qas m[i]!.z n=0:=by
 unfold qey;rw [vav,vav,vap,vap,vcx]
 constructor
 .rintro ⟨⟨a,b⟩,c⟩;exact ⟨a,b,fun i d=>vdm (c i (vbv.2 d))⟩
 rintro ⟨a,b,c⟩;exact ⟨⟨a,b⟩,fun i d=>vah (c i (vbv.1 d))⟩
theorem RefR.known {r s:RP} (h:RefR r s) (j:chkR r=true) (k:FewM r):∀ i,i < r.k.z.size->chkB s.k.z[i]!.kn=true/\r.k.z[i]!.base<=s.k.z[i]!.base/\s.k.z[i]!.r.z.size<=1000/\s.k.z[i]!.a.z.size<=400:=by
 intro i e;obtain ⟨n,q,b,_,g⟩:=h.kk i e;have m:=qco.1 (qie j i e);have d:=qfo j;have a:ChkP n/\r.k.z[i]!.kn.base<=n.base:=by
  by_cases f:(i:Int) + 1=r.self
  .rw [vam f] at b
   have p:r.k.z[i]!.kn.ats.size + r.o.z.size<=400:=by
    have v:=(k.s i e f).2;have x:=k.o;show r.k.z[i]!.a.z.size + r.o.z.size<=400;omega
   have:=qqb (qnk m d) b p
   exact ⟨this.1,this.2.1⟩
  rw [vao f] at b;rw [b];exact ⟨m,vdo _⟩
 have c:=qwt a.1 g;obtain ⟨l,_,t,u⟩:=g.ok a.1;have o:s.k.z[i]!.kn.rs.size<=1000:=vax u.sz t;exact ⟨qco.2 c.1,Int.le_trans a.2 c.2.1,o,c.1.sz⟩
theorem RefR.fl {r s:RP} (h:RefR r s) (a:chkR r=true):r.floor<=s.floor/\s.floor<=r.clock:=by
 have b:=(qit.1 (qfo a)).1;rw [h.floor];omega
theorem RefR.chk {r s:RP} (h:RefR r s) (b:chkR r=true) (T:FewM r):chkR s=true:=by
 have C:=h.known b T;have B:=h.fl b;have D:=(qew b).1;have p:=qgf b;have n:=qci.1 (qex b);have o:=clk_kept (qfo b) B.1 B.2;obtain ⟨S,z,A⟩:=(qbo r).1 b;have a:s.n=r.n:=by rw [h.eq]
 have Q:s.f=r.f:=by rw [h.eq]
 have x:s.self=r.self:=by rw [h.eq]
 have P:s.clock=r.clock:=by rw [h.eq]
 have e:s.seq=r.seq:=by rw [h.eq]
 have y:s.ticks=r.ticks:=by rw [h.eq]
 have v:s.e=r.e:=by rw [h.eq]
 have R:s.fr=r.fr:=by rw [h.eq]
 have u:s.d=r.d:=by rw [h.eq]
 have N:s.lt=r.lt:=by rw [h.eq]
 have O:s.lid=r.lid:=by rw [h.eq]
 have t:s.count=r.count:=by rw [h.eq]
 have q:qas (qce s.k.z) r.n=0:=qji D (by rw [h.ks];exact p) (fun i c=>(C i (by rw [<-h.ks];exact c)).1);have f:qey s.m.z r.n=true:=by
  refine qci.2 ⟨D,by rw [h.ms];exact n.2.1,fun i c=>?_⟩;have d:i < r.m.z.size:=by rw [<-h.ms];exact c
  rw [h.mm i d];split
  .exact qfn (n.2.2 i d) q
  exact n.2.2 i d
 obtain ⟨E,G,H,V,I,J,K,L,M,g,j,k,F,l,m⟩:=S;refine (qbo s).2 ⟨⟨?_,?_,?_,?_,?_,?_,?_,?_,?_,?_,?_,?_,?_,?_,?_⟩,⟨?_,?_⟩,?_⟩
 .rw [a,Q];exact E
 .rw [x];exact G
 .rw [x,a];exact H
 .unfold clkE
  rw [P,h.o,vam o]
 .rw [e];exact I
 .rw [e];exact J
 .rw [y];exact K
 .rw [y];exact L
 .rw [t];exact M
 .rw [t];exact g
 .rw [v];exact j
 .rw [h.ks,a];exact k
 .unfold qea
  rw [a,vam f]
 .rw [R,a];exact l
 .rw [u,a];exact m
 .rw [v,a];exact z.1
 .intro i c
  rw [h.ks] at c;have U:=(C i c).1;refine ⟨?_,?_⟩
  .exact vam U
  rw [u];exact (z.2 i c).2
 unfold RckC at A |-
 rw [N,O];exact A
theorem RefR.few {r s:RP} (h:RefR r s) (e:chkR r=true) (b:FewM r):FewC s:=by
 have k:=h.known e b;have n:=qci.1 (qex e);have l:=qgf e;have g:s.e=r.e:=by rw [h.eq]
 have j:s.fr=r.fr:=by rw [h.eq]
 have f:s.d=r.d:=by rw [h.eq]
 refine ⟨?_,?_,?_,?_,?_,?_,?_,?_,?_,?_⟩
 .rw [g];exact b.c.es
 .rw [g];exact b.c.ee
 .rw [h.o]
  have:=vcf (fun a:Int×Int=>!decide (a.1<=s.floor)) r.o.z.toList
  have:=b.o
  unfold qnl;simp at *;omega
 .rw [h.ks];exact b.c.k
 .rw [h.ms];exact b.c.m
 .intro i d
  have c:i < r.m.z.size:=by rw [<-h.ms];exact d
  rw [h.mm i c];have m:=b.c.mm i c;split
  .rw [qcw,qbm,h.ks]
   have:=b.c.k
   omega
  exact m
 .rw [j];exact b.c.fr
 .rw [f];exact b.c.d
 .rw [f];exact b.c.dd
 intro i d;rw [h.ks] at d
 have:=k i d
 omega
theorem RefR.own {r s:RP} (h:RefR r s) (b:chkR r=true) (c:FewM r) {i:Nat} (hi:i < r.k.z.size) (d:(i:Int) + 1=r.self) (f:s.k.z[i]!.a.z.size=0) (j:r.floor<=r.k.z[i]!.base):r.clock<=s.k.z[i]!.base:=by
 obtain ⟨o,l,a,_,e⟩:=h.kk i hi;have g:=qco.1 (qie b i hi);rw [vam d] at a;have k:r.k.z[i]!.kn.ats.size + r.o.z.size<=400:=by
  have m:=(c.s i hi d).2;have n:=c.o;show r.k.z[i]!.a.z.size + r.o.z.size<=400;omega
 exact own_mark (qnk g (qfo b)) a k e f j
structure EqR (a b:RP):Prop where
 h:qqu a b
 e:a.e.z.size=b.e.z.size/\∀ i,i < a.e.z.size->sameP a.e.z[i]! b.e.z[i]!
 o:a.o.z=b.o.z
 k:a.k.z.size=b.k.z.size/\∀ i,i < a.k.z.size->a.k.z[i]!.kn=b.k.z[i]!.kn
 m:a.m.z.size=b.m.z.size/\∀ i,i < a.m.z.size->a.m.z[i]!.z=b.m.z[i]!.z
 fr:a.fr.z=b.fr.z
 d:a.d.z.size=b.d.z.size/\∀ i,i < a.d.z.size->a.d.z[i]!.z=b.d.z[i]!.z
theorem EqR.refl (a:RP):EqR a a:=⟨⟨rfl,rfl,rfl,rfl,rfl,rfl,rfl,rfl,rfl,rfl⟩,⟨rfl,fun _ _=>qkj _⟩,rfl,⟨rfl,fun _ _=>rfl⟩,⟨rfl,fun _ _=>rfl⟩,rfl,⟨rfl,fun _ _=>rfl⟩⟩
theorem EqR.same {a b:RP} (h:EqR a b):qtd a b=true:=by
 unfold qtd;simp only [vav,vap];refine ⟨h.h,⟨⟨⟨⟨⟨?_,h.o⟩,?_⟩,?_⟩,h.fr⟩,?_⟩⟩
 .exact vah h.e
 .exact qfk h.k.1 fun i c=>qrb.2 (h.k.2 i c)
 .exact qfk h.m.1 fun i c=>vah (h.m.2 i c)
 exact qfk h.d.1 fun i c=>vah (h.d.2 i c)
theorem sameP.symm {a b:EN} (h:sameP a b):sameP b a:=by
 obtain ⟨d,e,f,g,i,j,k,l,m,c⟩:=h;exact ⟨d.symm,e.symm,f.symm,g.symm,i.symm,j.symm,k.symm,l.symm,m.symm,c.symm⟩
theorem qhp {α:Type} [Inhabited α] (d:Array α) {i:Nat} (hi:i < d.size):d[i]! ∈ d.toList:=by
 rw [vae d i hi];simp
theorem EqR.doneI {a b:RP} (h:EqR a b) (e:(a.d.z.size:Int)=a.n) (id:Int):doneI a id=doneI b id:=by
 unfold Go.Proofs.YtdcfffhoajmafaaGreat.doneI;have c:a.n=b.n:=h.h.1;rw [<-c];by_cases d:1<=qat id/\qat id<=a.n
 .rw [h.d.2 _ jo]
 rw [vab d];rfl
theorem EqR.overB {a b:RP} (h:EqR a b) (j:(a.d.z.size:Int)=a.n) (id:Int):overB a id=overB b id:=by
 unfold Go.Proofs.YtdcfffhoajmafaaGreat.overB;rw [h.doneI j id];congr 1;rw [vbd,vca,vca]
 constructor
 .rintro ⟨x,g,f⟩
  obtain ⟨i,e,rfl⟩:=qkf g;have d:=h.e.2 i e;refine ⟨b.e.z[i]!,qhp _ (by rw [<-h.e.1];exact e),?_⟩;rw [<-d.1,<-d.2.1];exact f
 rintro ⟨x,g,f⟩;obtain ⟨i,e,rfl⟩:=qkf g;have c:i < a.e.z.size:=by rw [h.e.1];exact e
 have d:=h.e.2 i c;refine ⟨a.e.z[i]!,qhp _ c,?_⟩;rw [d.1,d.2.1];exact f
theorem SetR.congr {k r:KN} {ids b:Array Int} (h:SetR k ids r) (d:∀ a ∈ k.ats.toList,qds ids a=qds b a):SetR k b r:=by
 obtain ⟨l,i,j,m⟩:=h;have f:qfj k ids=qfj k b:=by
  unfold qfj;congr 1;exact List.filter_congr fun a o=>by rw [d a o]
 have g:∀ n,pS k ids n=pS k b n:=fun n=>by
  unfold pS;congr 1;rw [vbd,vca,vca]
  constructor
  .rintro ⟨x,c,e⟩;exact ⟨x,c,by rw [<-d x c];exact e⟩
  rintro ⟨x,c,e⟩;exact ⟨x,c,by rw [d x c];exact e⟩
 exact ⟨l,i.congr g,j,f ▸ m⟩
theorem qkg {ids:Array Int} {a:Int×Int}:qds ids a=true↔a.2 ∈ ids.toList:=by
 unfold qds;simp
theorem over_done {r d:RP} {k:KN} {ids b:Array Int} (h:qnm r k ids) (e:qnm d k b) (f:∀ c,overB r c=overB d c):∀ a ∈ k.ats.toList,qds ids a=qds b a:=by
 intro a g;rw [vbd,qkg,qkg,h a.2,e a.2,f]
theorem bases_eq {a b:Array KE} (f:a.size=b.size) (h:∀ i,i < a.size->a[i]!.kn=b[i]!.kn):qce a=qce b:=by
 refine Array.ext (by rw [qbm,qbm,f]) fun i c g=>?_
 rw [qbm] at c;have d:=qgv a c;have e:=qgv b (by rw [<-f];exact c);rw [vae _ i (by rw [qbm];exact c)] at d;rw [vae _ i g] at e;rw [d,e];exact congrArg KN.base (h i c)
theorem colM_eq {a b:Array (RW Int)} (j:a.size=b.size) (h:∀ i,i < a.size->a[i]!.z=b[i]!.z) (c:Nat):colM a c=colM b c:=by
 have e:∀ d:Array (RW Int),(colM d c).size=d.size:=fun d=>by simp [colM]
 refine Array.ext (by rw [e,e,j]) fun i f g=>?_
 rw [e] at f g
 have:=h i f
 rw [vae a i f,vae b i g] at this;simp only [colM,Array.getElem_map,this]
theorem RefR.uniq {r E s f:RP} (d:EqR r E) (T:(r.d.z.size:Int)=r.n) (h:RefR r s) (e:RefR E f):EqR s f:=by
 obtain ⟨V,U,v,x,X,t,Y,z,A,y⟩:=d.h;have I:∀ i,i < r.k.z.size->s.k.z[i]!.kn=f.k.z[i]!.kn:=by
  intro i c;obtain ⟨w,Z,u,O,P⟩:=h.kk i c;obtain ⟨k2,N,g,Q,R⟩:=e.kk i (by rw [<-d.k.1];exact c);have e12:w=k2:=by
   rw [<-d.k.2 i c,<-v,<-t,<-x,<-d.o] at g;by_cases M:(i:Int) + 1=r.self
   .rw [vam M] at u g
    exact u.uniq g
   rw [vao M] at u g;rw [u,g]
  subst e12;exact (P.congr (over_done O Q (d.overB T))).uniq R
 have p:s.k.z.size=f.k.z.size:=by rw [h.ks,e.ks,d.k.1]
 have S:=bases_eq p (fun i c=>I i (by rw [<-h.ks];exact c));have J:∀ i,i < r.m.z.size->s.m.z[i]!.z=f.m.z[i]!.z:=by
  intro i c;rw [h.mm i c,e.mm i (by rw [<-d.m.1];exact c),d.m.2 i c,v,S]
 have n:s.m.z.size=f.m.z.size:=by rw [h.ms,e.ms,d.m.1]
 have j:=colM_eq n (fun i c=>J i (by rw [<-h.ms];exact c)) (E.self.toNat - 1);have l:s.floor=f.floor:=by rw [h.floor,e.floor,t,x,v,j]
 have q:=h.eq;have q':=e.eq;have L:∀ {a b:RP} {k m K o},a={ b with k:=k,m:=m,floor:=K,o:=o }->a.n=b.n/\a.f=b.f/\a.self=b.self/\a.clock=b.clock/\a.seq=b.seq/\a.ticks=b.ticks/\a.e=b.e/\a.fr=b.fr/\a.d=b.d/\a.lt=b.lt/\a.lid=b.lid/\a.count=b.count:=by
  rintro a b k m K o rfl;exact ⟨rfl,rfl,rfl,rfl,rfl,rfl,rfl,rfl,rfl,rfl,rfl,rfl⟩
 obtain ⟨p1,p2,p3,p4,p5,p6,p7,p8,p9,B,C,D⟩:=L q;obtain ⟨r1,r2,r3,r4,r5,r6,r7,r8,r9,F,G,H⟩:=L q';refine ⟨⟨?_,?_,?_,?_,?_,l,?_,?_,?_,?_⟩,?_,?_,⟨p,fun i c=>I i (by rw [<-h.ks];exact c)⟩,⟨n,fun i c=>J i (by rw [<-h.ms];exact c)⟩,?_,?_⟩
 .rw [p1,r1,V]
 .rw [p2,r2,U]
 .rw [p3,r3,v]
 .rw [p4,r4,x]
 .rw [p5,r5,X]
 .rw [p6,r6,Y]
 .rw [B,F,z]
 .rw [C,G,A]
 .rw [D,H,y]
 .rw [p7,r7];exact d.e
 .rw [h.o,e.o,d.o,l]
 .rw [p8,r8];exact d.fr
 rw [p9,r9];exact d.d
structure NewR (n f me:Int) (N:Nat) (s:RP):Prop where
 h:s.n=n/\s.f=f/\s.self=me/\s.clock=0/\s.seq=0/\s.floor=0/\s.ticks=0/\s.lt=0/\s.lid=0/\s.count=0
 e:s.e.z=#[]
 o:s.o.z=#[]
 k:s.k.z.size=N/\∀ i,i < N->s.k.z[i]!.kn=⟨0,#[],#[]⟩
 m:NewM N s.m.z
 fr:s.fr.z=(List.replicate N 0).toArray
 d:s.d.z.size=N/\∀ i,i < N->s.d.z[i]!.z=#[]
 it:s.it.z=#[]
 ss:s.ss.z=#[]
def rp0:RP:=⟨0,0,0,0,0,0,0,⟨none,0,#[]⟩,⟨none,0,#[]⟩,⟨none,0,#[]⟩,⟨none,0,#[]⟩,⟨none,0,#[]⟩,⟨none,0,#[]⟩,0,0,0,⟨none,0,#[]⟩,⟨none,0,#[]⟩⟩
theorem newR_none:NewR 0 0 0 0 rp0 :=
 ⟨⟨rfl,rfl,rfl,rfl,rfl,rfl,rfl,rfl,rfl,rfl⟩,rfl,rfl,⟨rfl,fun i a=>absurd a (vci i)⟩,⟨rfl,fun i a=>absurd a (vci i)⟩,rfl,⟨rfl,fun i a=>absurd a (vci i)⟩,rfl,rfl⟩
theorem NewR.same {n f d:Int} {k:Nat} {a b:RP} (h:NewR n f d k a) (g:NewR n f d k b):qtd a b=true:=by
 obtain ⟨B,C,D,E,F,G,H,I,J,j⟩:=h.h;obtain ⟨r,s,t,u,v,x,y,z,A,e⟩:=g.h;have l:decide (qqu a b)=true:=vah ⟨by rw [B,r],by rw [C,s],by rw [D,t],by rw [E,u],by rw [F,v],by rw [G,x],by rw [H,y],by rw [I,z],by rw [J,A],by rw [j,e]⟩;have m:qnx a.e.z b.e.z=true:=by rw [h.e,g.e];exact zbm _
 have o:sameKs a.k.z b.k.z=true:=qfk (by rw [h.k.1,g.k.1]) fun i c=>by
  rw [h.k.1] at c;rw [h.k.2 i c,g.k.2 i c];exact qzl _
 have p:sameM a.m.z b.m.z=true:=qfk (by rw [h.m.1,g.m.1]) fun i c=>by
  rw [h.m.1] at c;rw [h.m.2 i c,g.m.2 i c];exact vah rfl
 have q:sameD a.d.z b.d.z=true:=qfk (by rw [h.d.1,g.d.1]) fun i c=>by
  rw [h.d.1] at c;rw [h.d.2 i c,g.d.2 i c];exact vah rfl
 unfold qtd;rw [l,m,o,p,q,h.o,g.o,h.fr,g.fr];simp
theorem NewR.few {n f g:Int} {k:Nat} {a:RP} (h:NewR n f g k a) (c:k<=20):FewP a where
 e:=by rw [h.e];rfl
 o:=by rw [h.o];exact vaj _
 k:=by rw [h.k.1];exact c
 m:=qgz.2 ⟨by rw [h.m.1];exact c,fun i b=>by rw [h.m.1] at b;rw [h.m.2 i b];simpa using c⟩
 fr:=by rw [h.fr];simpa using c
 d:=by rw [h.d.1];exact c
 kk:=fun i b=>by rw [h.k.1] at b;rw [h.k.2 i b];rfl
 dd:=fun i b=>by rw [h.d.1] at b;rw [h.d.2 i b];exact vaj _
 it:=by rw [h.it];exact vaj _
 ss:=by rw [h.ss];exact vaj _
def newP (n f self:Int):Prop:=qfd n f/\1<=self/\self<=n
instance (n f self:Int):Decidable (newP n f self):=by unfold newP qfd;infer_instance
def NewQ (n f self:Int) (e:Ending) (w':World):Prop:=∃ s:RP,e=.returned (.tuple #[.agg (encP s).toArray,.int .i64 (if newP n f self then 0 else 2)])/\(if newP n f self then NewR n f self n.toNat s else NewR 0 0 0 0 s)/\RdP w' s
theorem qgg {α:Type} [Inhabited α] (en:α->List Value) (k:Nat) (w:World):RdW en k w ⟨none,0,#[]⟩:=⟨fun h=>absurd h (vci _),vaa _,fun _=>rfl⟩
theorem qlu {α:Type} [Inhabited α] (en:α->List Value) (k:Nat) (w:World):RdN en k w ⟨none,0,#[]⟩:=⟨fun h=>absurd h (vci _),fun _=>rfl⟩
theorem rdJ_none (w:World):RdJ w ⟨none,0,#[]⟩:=⟨fun h=>absurd h jd,vaa _,fun _=>rfl⟩
theorem rdP_none (w:World):RdP w rp0 where
 e:=⟨fun h=>absurd h (vci _),fun i a=>absurd a (vci i)⟩
 o:=qlu _ _ _
 k:=qgg _ _ _
 kk:=fun i a=>absurd a (vci i)
 m:=qgg _ _ _
 mm:=fun i a=>absurd a (vci i)
 fr:=rdJ_none _
 d:=qgg _ _ _
 dd:=fun i a=>absurd a (vci i)
 it:=qgg _ _ _
 ss:=qgg _ _ _
theorem newQ_none {n f a:Int} (h:¬ newP n f a) (w:World):NewQ n f a (.returned (.tuple #[.agg #[.int .i64 0,.int .i64 0,.int .i64 0,.int .i64 0,.int .i64 0,.int .i64 0,.int .i64 0,.slice none 0 0,.slice none 0 0,.slice none 0 0,.slice none 0 0,.slice none 0 0,.slice none 0 0,.int .i64 0,.int .i64 0,.int .i64 0,.slice none 0 0,.slice none 0 0],.int .i64 2])) w :=
 ⟨rp0,by rw [vao h];rfl,by rw [vao h];exact newR_none,rdP_none w⟩
theorem qft {enc:Int×Int->List Value} (F:∀ x,∃ a b:Int,enc x=[.int .i64 a,.int .i64 b]) {W W':World} {B K:Nat} {j:Array KE} (C:∀ t,t < j.size * 3->W.cell? ⟨K,t,none⟩=some (flatK qav 3 j)[t]!) {A:Option Addr} {d:Array (Int×Int)} (h:RdK enc 2 B W A d) {i:Nat} (hi:i < j.size) (D:∀ b t,(b≠K\/t < i * 3\/i * 3 + 3<=t)->W'.cell? ⟨b,t,none⟩=W.cell? ⟨b,t,none⟩):RdK enc 2 B W' A d:=by
 have k:∀ t,t < d.size * 2->∃ a:Int,(flatK enc 2 d)[t]! = .int .i64 a:=by
  intro t l;have n:t / 2 < d.size:=by omega
  obtain ⟨a,b,e⟩:=F d[t / 2]!
  have:=qfw enc 2 d (t / 2) (t % 2) n jo
  rw [show t / 2 * 2 + t % 2=t by omega,e] at this;rcases Nat.mod_two_eq_zero_or_one t with f | f <;> rw [f] at this
  .exact ⟨a,this⟩
  exact ⟨b,this⟩
 have g:∀ t,t < j.size * 3->∀ a:Int,W.cell? ⟨K,t,none⟩=some (.int .i64 a)->t % 3=0:=by
  intro t l a m;rw [C t l] at m;injection m with m
  have n:t / 3 < j.size:=by omega
  have:=qfw qav 3 j (t / 3) (t % 3) n jo
  rw [show t / 3 * 3 + t % 3=t by omega,m] at this;have z:t % 3=0\/t % 3=1\/t % 3=2:=by omega
  rcases z with f | f | f
  .exact f
  .rw [f] at this;cases this
  rw [f] at this;cases this
 intro f;obtain ⟨b,c,e,o,u⟩:=h f;refine ⟨b,c,e,o,fun t l=>?_⟩;rw [D b (c + t) ?_]
 .exact u t l
 refine Classical.byContradiction fun p=>?_
 have E:b=K:=Classical.byContradiction fun h=>p (Or.inl h)
 have H:i * 3<=c + t:=Nat.le_of_not_lt fun h=>p (Or.inr (Or.inl h))
 have I:c + t < i * 3 + 3:=Nat.lt_of_not_le fun h=>p (Or.inr (Or.inr h))
 subst E;have r:∀ s,s < d.size * 2->c + s < j.size * 3->(c + s) % 3=0:=fun s v q=>by
  obtain ⟨a,y⟩:=k s v;exact g _ q a (by rw [<-y];exact u s v)
 have J:=r t l jo;rcases Nat.mod_two_eq_zero_or_one t with G | G
 .have:=r (t + 1) jo jo
  omega
 have:=r (t - 1) jo jo
 omega
theorem qnn (x:Int×Int):∃ a b:Int,encR x=[.int .i64 a,.int .i64 b]:=⟨_,_,rfl⟩
theorem qno (x:Int×Int):∃ a b:Int,qae x=[.int .i64 a,.int .i64 b]:=⟨_,_,rfl⟩
section
theorem qbb (u v x y z A B f g h:Int) (r s t a b c d e:Option Addr) (D c7 E c8 F C m i n c11 o j p k q l:Nat):qfy #[.int .i64 u,.int .i64 v,.int .i64 x,.int .i64 y,.int .i64 z,.int .i64 A,.int .i64 B,.slice r D c7,.slice s E c8,.slice t F C,.slice a m i,.slice b n c11,.slice c o j,.int .i64 f,.int .i64 g,.int .i64 h,.slice d p k,.slice e q l]=true:=by simp [qfy,Value.oneCell']
theorem qbv (u v x y z A B f g h:Int) (r s t a b c d e:Option Addr) (D c7 E c8 F C m i n c11 o j p k q l:Nat):(#[.int .i64 u,.int .i64 v,.int .i64 x,.int .i64 y,.int .i64 z,.int .i64 A,.int .i64 B,.slice r D c7,.slice s E c8,.slice t F C,.slice a m i,.slice b n c11,.slice c o j,.int .i64 f,.int .i64 g,.int .i64 h,.slice d p k,.slice e q l]:Array Value).size=18:=rfl
theorem qao (W:World) (g:Nat) (cs:Array Value) (h:qdd W g 18=true) (a:cs.size=18) (b:qfy cs=true) :
 (qkd 35 (.pointer (some ⟨g,0,none⟩)) (.agg cs)).run prog W=.ok () (W.setRow g cs):=by
 obtain ⟨t,c,d⟩:=qjk h;simp only [qkd,Instr.storeAt,Instr.sureAddr,Sem.run_bind,Sem.run_pure,Result.andThen];exact run_storeVar_row W g t 35 _ cs c (by rw [a];kernel_rfl) (by rw [d,a]) b
theorem qal (W:World) (g:Nat) (zs cs:Array Value) (c:W.heap.size=g) (d:zs.size=18) (b:cs.size=18) (a:qfy cs=true) :
 (qkd 35 (.pointer (some ⟨g,0,none⟩)) (.agg cs)).run prog (W.alloc (.cells zs 35))=.ok () (W.alloc (.cells cs 35)):=qej W g zs cs c d b a
theorem qnp {W:World} {g:Nat} {cs:Array Value} {T:TypeId} (h:W.heap[g]?=some (.cells cs T (0,0))) (a:cs.size=18):(loadVar 35 ⟨g,0,none⟩).run prog W=.ok (.agg cs) W :=
 vek W g T 35 cs (0,0) _ h underlying35 rfl (by rw [a];kernel_rfl)
theorem qch {c:Func} {t:Tmp} (e:c.results=#[.cell t 35]) {b:Array Value} {W:World} {g:Nat} {cs:Array Value} {T:TypeId} (f:b.getD t undef=.pointer (some ⟨g,0,none⟩)) (h:W.heap[g]?=some (.cells cs T (0,0))) (d:cs.size=18):(results c b).run prog W=.ok (.agg cs) W:=by
 have a:b[t]?.getD undef=.pointer (some ⟨g,0,none⟩):=by rw [<-vde];exact f
 simp [results,e,a,asAddr,qnp h d]
theorem qbh {c:Func} {t u:Tmp} (e:c.results=#[.cell t 35,.tmp u]) {a:Array Value} {W:World} {g:Nat} {cs:Array Value} {T:TypeId} (f:a.getD t undef=.pointer (some ⟨g,0,none⟩)) (h:W.heap[g]?=some (.cells cs T (0,0))) (d:cs.size=18):(results c a).run prog W=.ok (.tuple #[.agg cs,a.getD u undef]) W:=by
 have b:a[t]?.getD undef=.pointer (some ⟨g,0,none⟩):=by rw [<-vde];exact f
 simp [results,e,b,asAddr,qnp h d]
theorem qlv:(prog.info? 66).map (fun i=>(i.zero,i.size,i.bytes))=some (some (.agg #[.int .i64 0,.slice none 0 0,.slice none 0 0]),3,56):=by kernel_rfl
theorem rngs_info:(prog.info? 64).map (fun i=>(i.zero,i.size,i.bytes))=some (some (.slice none 0 0),1,24):=by kernel_rfl
def ke0:KE:=⟨0,⟨none,0,#[]⟩,⟨none,0,#[]⟩⟩
def kes (n:Nat):Array KE:=(List.replicate n ke0).toArray
def rws (n:Nat):Array (RW (Int×Int)):=(List.replicate n ⟨none,0,#[]⟩).toArray
theorem qqr {α:Type} [Inhabited α] (n i:Nat) (x:α) (h:i < n):((List.replicate n x).toArray)[i]! = x:=by
 rw [vae _ i (by simpa using h)];simp
attribute [local go_sem ↓] qap qan
attribute [local go_sem] qaw qao qal qbb qbv
theorem kes_succ (k:Nat):kes (k + 1)=(kes k).push ke0:=by
 unfold kes;rw [List.replicate_succ',vfe]
theorem rws_succ (k:Nat):rws (k + 1)=(rws k).push ⟨none,0,#[]⟩:=by
 unfold rws;rw [List.replicate_succ',vfe]
theorem qqs (k:Nat):(kes k).size=k:=by simp [kes]
theorem qqt (k:Nat):(rws k).size=k:=by simp [rws]
def nbC (N:Nat) (f me:Int) (vK vM vF vD:Value):Array Value:=#[.int .i64 (N:Int),.int .i64 f,.int .i64 me,.int .i64 0,.int .i64 0,.int .i64 0,.int .i64 0,.slice none 0 0,.slice none 0 0,vK,vM,vF,vD,.int .i64 0,.int .i64 0,.int .i64 0,.slice none 0 0,.slice none 0 0]
structure NewW (g B:Nat) (w w1:World) (zs0:Array Value) (N:Nat) (f me:Int) (vM:Value) (vK:Value) (kK:Nat) (vF:Value) (kF:Nat) (vD:Value) (kD:Nat) (W:World):Prop where
 row:W.heap[g]?=some (.cells (nbC N f me vK vM vF vD) 35 (0,0))
 res:W.heap[w.heap.size]?=some (.cells zs0 35 (0,0))
 oK:W.ownsRow B 66 3 vK kK (flatK qav 3 (kes kK)).toList
 oF:W.ownsRow B 3 1 vF kF ((zs kF).map (Value.int .i64))
 oD:W.ownsRow B 64 1 vD kD (flatK encW 1 (rws kD)).toList
 kp:∀ j,g < j->j < B->W.heap[j]?=w1.heap[j]?
 b:Below w.heap.size w W
 sz:B<=W.heap.size
 hg:w.heap.size < g
 gB:g < B
section
variable {g B:Nat} {w w1:World} {zs0:Array Value} {N:Nat} {f me:Int} {vM vK vF vD:Value} {kK kF kD:Nat} {W w3:World}
theorem NewW.cell (h:NewW g B w w1 zs0 N f me vM vK kK vF kF vD kD W) (j:Nat) {u:Value} (a:(nbC N f me vK vM vF vD)[j]?=some u):W.cell? ⟨g,j,none⟩=some u:=by
 rw [vas W g j _ _ (0,0) h.row];exact a
theorem NewW.froz (h:NewW g B w w1 zs0 N f me vM vK kK vF kF vD kD W) (j:Nat):W.frozen? ⟨g,j,none⟩=false:=by
 have:=h.row
 simp [World.frozen?,this]
theorem NewW.grow (h:NewW g B w w1 zs0 N f me vM vK kK vF kF vD kD W) {o:Obj} {v:Value} {e:TypeId} {s n:Nat} {q:List Value} (p:W.ownsRow B e s v n q) (d:(W.alloc o).grownBy w3 v.ownBlock) :
 w3.heap[g]?=some (.cells (nbC N f me vK vM vF vD) 35 (0,0))/\w3.heap[w.heap.size]?=some (.cells zs0 35 (0,0))/\(∀ j,g < j->j < B->w3.heap[j]?=w1.heap[j]?)/\Below w.heap.size w w3/\B<=w3.heap.size:=by
 have i:=p.lt;have c:∀ j,j < B->w3.heap[j]?=W.heap[j]?:=fun j k=>by
  have t:=h.sz;rw [d.block j jso (fun m=>by have:=(i j m.symm).1;omega)];exact heap_alloc_old W o jo
 have r:=h.hg;have l:=h.gB;refine ⟨(c g l).trans h.row,(c _ jo).trans h.res,fun j a b=>(c j b).trans (h.kp j a b),⟨d.os.trans h.b.os,d.tape.trans h.b.tape,d.output.trans h.b.output,?_,fun j k=>(c j jo).trans (h.b.block j k)⟩,?_⟩
 .have:=d.size
  have:=h.b.size
  simp at *;omega
 have:=d.size
 have:=h.sz
 simp at *;omega
theorem NewW.alloc (h:NewW g B w w1 zs0 N f me vM vK kK vF kF vD kD W) (o:Obj):NewW g B w w1 zs0 N f me vM vK kK vF kF vD kD (W.alloc o) :=
 ⟨qdm h.row,qdm h.res,h.oK.alloc o,h.oF.alloc o,h.oD.alloc o,fun j a b=>(heap_alloc_old W o (jg h.sz)).trans (h.kp j a b),qab h.b o,by have:=h.sz;simp;omega,h.hg,h.gB⟩
theorem qcm {e:TypeId} {s n:Nat} {v:Value} {a:List Value} (h:W.ownsRow B e s v n a) (b:g < B) (j:Nat) (u:Value):(W.setCell ⟨g,j,none⟩ u).ownsRow B e s v n a :=
 qdz h (vaa _) (fun i c _=>vbf W ⟨g,j,none⟩ i u jso)
theorem NewW.putK (h:NewW g B w w1 zs0 N f me vM vK kK vF kF vD kD W) {o:Obj} {v':Value} (d:(W.alloc o).grownBy w3 vK.ownBlock) (q:w3.ownsRow B 66 3 v' (kK + 1) ((flatK qav 3 (kes kK)).toList ++ [.int .i64 0,.slice none 0 0,.slice none 0 0])) :
 NewW g B w w1 zs0 N f me vM v' (kK + 1) vF kF vD kD (w3.setCell ⟨g,9,none⟩ v'):=by
 obtain ⟨i,k,l,m,n⟩:=h.grow h.oK d;have c:=h.gB;have e:=h.hg
 refine ⟨vdh w3 g 9 _ _ v' i,(vbf w3 ⟨g,9,none⟩ _ v' jso).trans k,qcm ?_ c 9 v',qcm (qdv (h.oK.alloc o) (h.oF.alloc o) jd d) c 9 v',qcm (qdv (h.oK.alloc o) (h.oD.alloc o) jd d) c 9 v',
  fun j a b=>(vbf w3 ⟨g,9,none⟩ j v' jso).trans (l j a b),m.setCell (p:=⟨g,9,none⟩) jso v',by simpa using n,e,c⟩
 rw [kes_succ,qax qic];exact q
theorem NewW.putF (h:NewW g B w w1 zs0 N f me vM vK kK vF kF vD kD W) {o:Obj} {v':Value} (d:(W.alloc o).grownBy w3 vF.ownBlock) (q:w3.ownsRow B 3 1 v' (kF + 1) ((zs kF).map (Value.int .i64) ++ [.int .i64 0])) :
 NewW g B w w1 zs0 N f me vM vK kK v' (kF + 1) vD kD (w3.setCell ⟨g,11,none⟩ v'):=by
 obtain ⟨i,k,l,m,n⟩:=h.grow h.oF d;have c:=h.gB;have e:=h.hg
 refine ⟨vdh w3 g 11 _ _ v' i,(vbf w3 ⟨g,11,none⟩ _ v' jso).trans k,qcm (qdv (h.oF.alloc o) (h.oK.alloc o) jd d) c 11 v',qcm ?_ c 11 v',qcm (qdv (h.oF.alloc o) (h.oD.alloc o) jd d) c 11 v',
  fun j a b=>(vbf w3 ⟨g,11,none⟩ j v' jso).trans (l j a b),m.setCell (p:=⟨g,11,none⟩) jso v',by simpa using n,e,c⟩
 rw [zs_succ,vdn];exact q
theorem NewW.putD (h:NewW g B w w1 zs0 N f me vM vK kK vF kF vD kD W) {o:Obj} {v':Value} (d:(W.alloc o).grownBy w3 vD.ownBlock) (q:w3.ownsRow B 64 1 v' (kD + 1) ((flatK encW 1 (rws kD)).toList ++ [.slice none 0 0])) :
 NewW g B w w1 zs0 N f me vM vK kK vF kF v' (kD + 1) (w3.setCell ⟨g,12,none⟩ v'):=by
 obtain ⟨i,k,l,m,n⟩:=h.grow h.oD d;have c:=h.gB;have e:=h.hg
 refine ⟨vdh w3 g 12 _ _ v' i,(vbf w3 ⟨g,12,none⟩ _ v' jso).trans k,qcm (qdv (h.oD.alloc o) (h.oK.alloc o) jd d) c 12 v',qcm (qdv (h.oD.alloc o) (h.oF.alloc o) jd d) c 12 v',qcm ?_ c 12 v',
  fun j a b=>(vbf w3 ⟨g,12,none⟩ j v' jso).trans (l j a b),m.setCell (p:=⟨g,12,none⟩) jso v',by simpa using n,e,c⟩
 rw [rws_succ,qax qql];exact q
end
theorem qli {w:World} {B s n:Nat} {e:TypeId} {v:Value} {b:List Value} (h:w.ownsRow B e s v n b):∃ A c,v=.slice A n c:=by
 obtain ⟨_,⟨e,a⟩ | ⟨_,_,_,e,_⟩⟩:=h
 .exact ⟨none,0,by rw [a];exact e⟩
 exact ⟨_,_,e⟩
theorem NewW.done {g B:Nat} {w w1 W W':World} {zs0:Array Value} {N:Nat} {f me:Int} {vM vK vF vD:Value} (n:newP (N:Int) f me) (h:NewW g B w w1 zs0 N f me vM vK N vF N vD N W) (H:B<=w1.heap.size) (x:OwnZ (g + 1) w1 vM N) (y:w1.heap.size<=B) (k:∀ j,g < j->W'.heap[j]?=W.heap[j]?) :
 NewQ (N:Int) f me (.returned (.tuple #[.agg (nbC N f me vK vM vF vD),.int .i64 0])) W':=by
 have v:=h.gB;obtain ⟨e,t,q,C⟩:=qek (d:=kes N) (en:=qav) (by rw [qqs];exact qdz (W:=W') h.oK (B0:=g + 1) jo (fun j m _=>k j jo));obtain ⟨D,s,F,A⟩:=qcf (l:=zs N) (by rw [zs_len];exact qdz (W:=W') h.oF (B0:=g + 1) jo (fun j m _=>k j jo));obtain ⟨c,r,p,z⟩:=qek (d:=rws N) (en:=encW) (by rw [qqt];exact qdz (W:=W') h.oD (B0:=g + 1) jo (fun j m _=>k j jo));obtain ⟨E,u,G,o⟩:=(x.same (W:=W') (fun j m I=>(k j jo).trans (h.kp j jo jo))).rd;subst t s r u;refine ⟨⟨(N:Int),f,me,0,0,0,0,⟨none,0,#[]⟩,⟨none,0,#[]⟩,e,E,D,c,0,0,0,⟨none,0,#[]⟩,⟨none,0,#[]⟩⟩,?_,?_,?_⟩
 .rw [vam n]
  rfl
 .rw [vam n,Int.toNat_natCast]
  refine ⟨⟨rfl,rfl,rfl,rfl,rfl,rfl,rfl,rfl,rfl,rfl⟩,rfl,rfl,?_,G,F,?_,rfl,rfl⟩
  .show e.z.size=N/\∀ i,i < N->e.z[i]!.kn=_
   rw [q];exact ⟨qqs N,fun i b=>by rw [show (kes N)[i]! = ke0 from qqr N i _ b];rfl⟩
  show c.z.size=N/\∀ i,i < N->c.z[i]!.z=_;rw [p];exact ⟨qqt N,fun i b=>by rw [show (rws N)[i]! = ⟨none,0,#[]⟩ from qqr N i _ b]⟩
 refine ⟨⟨fun h=>absurd h (vci _),fun i b=>absurd b (vci i)⟩,qlu _ _ _,C,fun i b=>?_,o.1,o.2,A,z,fun i b=>?_,qgg _ _ _,qgg _ _ _⟩
 .have a:i < e.z.size:=b
  show RdKE W' e.z[i]!;rw [q] at a |-
  rw [qqs] at a;rw [show (kes N)[i]! = ke0 from qqr N i _ a];exact ⟨qlu _ _ _,qlu _ _ _⟩
 have a:i < c.z.size:=b;show RdW encR 2 W' c.z[i]!;rw [p] at a |-
 rw [qqt] at a;rw [show (rws N)[i]! = ⟨none,0,#[]⟩ from qqr N i _ a];exact qgg _ _ _
theorem three_one (w:World) (a b:Array Value) (t u:TypeId) (_:True):((w.alloc (.cells a t)).alloc (.cells b u)).heap[w.heap.size]?=some (.cells a t (0,0)):=qdm (vaw w _)
theorem three_two (w:World) (a b:Array Value) (t u:TypeId) (_:True):((w.alloc (.cells a t)).alloc (.cells b u)).heap[w.heap.size + 1]?=some (.cells b u (0,0)):=veh w _ _
theorem qxw (W:World) (a:Addr) (v:Value) (l:List Value) (t:TypeId) (s:Nat) (b:(W.setCell a v).heap.size=s):∀ j u,l[j]?=some u->((W.setCell a v).alloc (.cells l.toArray t)).cell? ((⟨s,0,none⟩:Addr).add j)=some u:=b ▸ newL _ _ _
theorem own_k0 (W:World) (B:Nat):W.ownsRow B 66 3 (.slice none 0 0) 0 (flatK qav 3 (kes 0)).toList:=by
 have e:kes 0=#[]:=rfl;rw [e];exact qbk _ _ _ _ _
theorem own_d0 (W:World) (B:Nat):W.ownsRow B 64 1 (.slice none 0 0) 0 (flatK encW 1 (rws 0)).toList:=by
 have e:rws 0=#[]:=rfl;rw [e];exact qbk _ _ _ _ _
def qby:Array Value:=#[.int .i64 0,.int .i64 0,.int .i64 0,.int .i64 0,.int .i64 0,.int .i64 0,.int .i64 0,.slice none 0 0,.slice none 0 0,.slice none 0 0,.slice none 0 0,.slice none 0 0,.slice none 0 0,.int .i64 0,.int .i64 0,.int .i64 0,.slice none 0 0,.slice none 0 0]
theorem zba (n f me:Int) (w:World):Calls prog 23 #[.int .i64 n,.int .i64 f,.int .i64 me] w fun e w'=>NewQ n f me e w'/\Below w.heap.size w w':=by
 have D:=qvp n f;have d:=hI (fun W=>qtc n f W);by_cases G:newP n f me
 .obtain ⟨r,E,F⟩:=G
  have K:=r;unfold qfd at K;have HP:Hid (newP n f me):=⟨r,E,F⟩
  have J:(qlo n f == 0)=false:=vch.2 (D.2 r);obtain ⟨N,rfl⟩:∃ N:Nat,n=(N:Int):=⟨n.toNat,by omega⟩
  have c4:N<=9:=by omega
  have HN:=hI (fun W=>rSwNew_ok N W jo jo);have e2:decide (me < 1)=false:=vab jo;have e3:decide ((N:Int) < me)=false:=vab jo;generalize qlo (N:Int) f=z1 at d J;generalize zax (N:Int) f=z2 at d;generalize zay (N:Int) f=z3 at d;clear r K E F D;go_in
  go_wp2_with (first
   | (go_at_call 59;refine (d.out _).mono ?_;rintro _ _ ⟨rfl,rfl⟩)
   | (go_at_call 60;refine (HN.out _).mono ?_;rintro _ w1 ⟨⟨vM,rfl,M⟩,hb⟩;have HO:=hI M;have S:=hI hb;obtain ⟨R,T,rfl⟩:∃ A c,vM=.slice A N c:=(by obtain ⟨L,hl,r,_⟩:=M;rw [<-hl];exact qli r);clear M hb;
      have b5:w.heap.size + 1 + 1<=w1.heap.size:=(by have:=S.out.size;simpa using this);have q:=(S.out.block (w.heap.size + 1) js).trans (three_two _ _ _ _ _ trivial);have B:=(S.out.block w.heap.size jso).trans (three_one _ _ _ _ _ trivial);
      have Z:w1.cell? ⟨w.heap.size + 1,10,none⟩=some (.slice none 0 0):=(vas w1 (w.heap.size + 1) 10 _ _ (0,0) q).trans rfl;have a1:w1.frozen? ⟨w.heap.size + 1,10,none⟩=false:=(by simp [World.frozen?,q]);have HR:=hI q;have X:=hI B;clear q B))
  have C:Hid (NewW (w.heap.size + 1) w1.heap.size w w1 qby N f me (.slice R N T) (.slice none 0 0) 0 (.slice none 0 0) 0 (.slice none 0 0) 0 (w1.setCell ⟨w.heap.size + 1,10,none⟩ (.slice R N T))) :=
   ⟨vdh w1 _ 10 _ _ _ HR.out,(vbf w1 ⟨w.heap.size + 1,10,none⟩ _ _ js).trans X.out,own_k0 _ _,vcj _ _ _ _,own_d0 _ _,fun j a b=>vbf w1 ⟨w.heap.size + 1,10,none⟩ j _ jso,((qaa (qab (bel1 w _) _) S.out)).setCell (p:=⟨w.heap.size + 1,10,none⟩) js _,by simp,vcr _,by omega⟩
  obtain ⟨ws,Q⟩:∃ W,W=w1.setCell ⟨w.heap.size + 1,10,none⟩ (.slice R N T):=⟨_,rfl⟩
  rw [<-Q] at C |-
  obtain ⟨g,hg⟩:∃ g,w.heap.size + 1=g:=⟨_,rfl⟩
  rw [hg] at C |-
  have HG:=hI hg;obtain ⟨i0,a2,b1,b2,b3⟩:=vbo qlv;obtain ⟨j0,a3,a8,a9,b0⟩:=vbo qcc;obtain ⟨k0,a4,a5,a6,a7⟩:=vbo rngs_info;clear Q Z a1 hg
  go_loopw [12] (fun i wr=>∃ (k:Nat) (vK vF vD:Value),i=.int .i64 k/\k<=N/\Hid (NewW g w1.heap.size w w1 qby N f me (.slice R N T) vK k vF k vD k wr)) (fun i _=>N - (intOf i).toNat)
  case atStart=>exact ⟨0,_,_,_,rfl,vaj _,C⟩
  case round =>
   obtain ⟨k,vK,vF,vD,rfl,hk,l⟩:=hrel;by_cases c5:k < N
   .have kz:(k:Int) < (N:Int):=by omega
    have c9:=l.out.cell 9 (u:=vK) rfl;have O:=l.out.sz
    go_wp2_with (first
     | (at_builtin;refine vay _ rfl _ _ 24 rfl w1.heap.size 66 i0 (.agg #[.int .i64 0,.slice none 0 0,.slice none 0 0]) 3 56 underlying24 a2 b1 b2 b3 rfl jd _ _ _ rfl (l.out.oK.alloc _) ⟨wr.heap.size,0,none⟩ 1 1 [.int .i64 0,.slice none 0 0,.slice none 0 0] rfl rfl (newL wr _ _) jV jl jo jso ?_;intro c8 w3 x v _;
        obtain ⟨b8,c1,rfl⟩:=qli x;have s:=hI (l.out.putK v x);have r3:=(l.out.grow l.out.oK v).1;have c9:w3.cell? ⟨g,9,none⟩=some vK:=(vas w3 g 9 _ _ (0,0) r3).trans rfl;have f9:w3.frozen? ⟨g,9,none⟩=false:=(by simp [World.frozen?,r3]);have c11:w3.cell? ⟨g,11,none⟩=some vF:=(vas w3 g 11 _ _ (0,0) r3).trans rfl;have O:=s.out.sz)
     | (at_builtin;refine vay _ rfl _ _ 26 rfl w1.heap.size 3 j0 (.int .i64 0) 1 8 underlying26 a3 a8 a9 b0 rfl jd _ _ _ rfl (s.out.oF.alloc _) ⟨w3.heap.size,0,none⟩ 1 1 [.int .i64 0] rfl rfl (qxw _ _ _ _ _ _ js) jV jl jo (by simp at O |-;omega) ?_;intro c7 H y m _;
        obtain ⟨b7,c0,rfl⟩:=qli y;have t:=hI (s.out.putF m y);have r4:=(s.out.grow s.out.oF m).1;have c11:H.cell? ⟨g,11,none⟩=some vF:=(vas H g 11 _ _ (0,0) r4).trans rfl;have c2:H.frozen? ⟨g,11,none⟩=false:=(by simp [World.frozen?,r4]);have a0:H.cell? ⟨g,12,none⟩=some vD:=(vas H g 12 _ _ (0,0) r4).trans rfl;have P:=t.out.sz)
     | (at_builtin;refine vay _ rfl _ _ 27 rfl w1.heap.size 64 k0 (.slice none 0 0) 1 24 underlying27 a4 a5 a6 a7 rfl jd _ _ _ rfl (t.out.oD.alloc _) ⟨H.heap.size,0,none⟩ 1 1 [.slice none 0 0] rfl rfl (qxw _ _ _ _ _ _ js) jV jl jo (by simp at P |-;omega) ?_;intro c6 w5 z o _;
        obtain ⟨b6,b9,rfl⟩:=qli z;have Y:=hI (t.out.putD o z);have r5:=(t.out.grow t.out.oD o).1;have a0:w5.cell? ⟨g,12,none⟩=some vD:=(vas w5 g 12 _ _ (0,0) r5).trans rfl;have c3:w5.frozen? ⟨g,12,none⟩=false:=(by simp [World.frozen?,r5])))
    go_roundw
    case rel=>exact ⟨k + 1,_,_,_,by go_num,by omega,Y⟩
    case measure=>simp [intOf];omega
   have b4:decide ((k:Int) < (N:Int))=false:=vab jo;obtain rfl:k=N:=by omega
   obtain ⟨AK,cK,rfl⟩:=qli l.out.oK;obtain ⟨AF,cF,rfl⟩:=qli l.out.oF;obtain ⟨AD,cD,rfl⟩:=qli l.out.oD;have x1:=qdx l.out.row (n:=18) rfl;have x2:=qef l.out.row;unfold nbC at x2;have y1:=qdx l.out.res (n:=18) rfl
   have HQ:=hI (fun W' M=>l.out.done (W':=W') HP.out (vaa _) (by
    have h:=HO.out;simp only [World.alloc,vbk,HG.out] at h
    exact h) (vaa _) M)
   have I:=hI l.out.res;have U:=hI l.out.b;go_wp2;refine vau (qbh rfl rfl (vbz _ _ _ _ _ _ I.out) rfl) rfl ?_;refine ⟨HQ.out _ (fun j hj=>vbg _ _ j _ (jg HG.out)),U.out.trans ⟨rfl,rfl,rfl,by simp,fun j hj=>vbg _ _ j _ jo⟩⟩
 have V:=hI (newQ_none G);by_cases r:qfd n f
 .have J:(qlo n f == 0)=false:=vch.2 (D.2 r)
  generalize qlo n f=z1 at d J;generalize zax n f=z2 at d;generalize zay n f=z3 at d;by_cases E:1<=me
  .have F:¬ me<=n:=fun F=>G ⟨r,E,F⟩
   have e2:decide (me < 1)=false:=vab jo;have e3:decide (n < me)=true:=vah jo;clear G r E F D;go_in;go_wp2_with (go_at_call 59;refine (d.out _).mono ?_;rintro _ _ ⟨rfl,rfl⟩);refine vau (qbh rfl rfl (vaw _ _) rfl) rfl ?_;exact ⟨V.out _,bel1 _ _⟩
  have e2:decide (me < 1)=true:=vah jo;clear G r E D;go_in;go_wp2_with (go_at_call 59;refine (d.out _).mono ?_;rintro _ _ ⟨rfl,rfl⟩);refine vau (qbh rfl rfl (vaw _ _) rfl) rfl ?_;exact ⟨V.out _,bel1 _ _⟩
 have J:(qlo n f == 0)=true:=vef.2 (Classical.byContradiction fun h=>r (D.1 h));generalize qlo n f=z1 at d J;generalize zax n f=z2 at d;generalize zay n f=z3 at d;clear G r D;go_in;go_wp2_with (go_at_call 59;refine (d.out _).mono ?_;rintro _ _ ⟨rfl,rfl⟩);refine vau (qbh rfl rfl (vaw _ _) rfl) rfl ?_;exact ⟨V.out _,bel1 _ _⟩
end
