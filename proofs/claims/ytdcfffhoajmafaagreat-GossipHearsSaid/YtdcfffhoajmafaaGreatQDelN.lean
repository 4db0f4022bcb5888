/- Texts that the law leans on. -/
import Derived.Test.YtdcfffhoajmafaaGreatQSrtK
import Derived.Test.YtdcfffhoajmafaaGreatQTbC
set_option maxRecDepth 100000
set_option maxHeartbeats 8000000
namespace Go.Proofs.YtdcfffhoajmafaaGreat
open Go.RowKit Go.Sort Go.Lib Go.Proofs.Tryz
theorem entDel (p:EN->Bool) (g:Nat) (lb:Array Value) (eg:∀ J w,(callFunc g J).run prog w=.ok (.enter g J) w) (a off m:Nat) (d:Array (EN)) (w:World)
 (hp:∀ W x,w.grownBy W (some a)->Calls prog g (#[.agg (encE x).toArray] ++ lb) W fun e w'=>e=.returned (.bool (p x))/\Below W.heap.size W w')
 (hH:HoldsK encE 10 w a off d) (H:a < w.heap.size) (g3:d.size<=1000000) (d3:d.size<=m) :
 Calls prog 165 #[.slice (some ⟨a,off,none⟩) d.size m,.func (.func g) #[] lb] w fun e w'=>e=.returned (.slice (some ⟨a,off,none⟩) (d.toList.filter fun x=>!p x).toArray.size m)/\w.grownBy w' (some a)/\RdK encE 10 w'.heap.size w' (some ⟨a,off,none⟩) (d.toList.filter fun x=>!p x).toArray:=by
 have tl:∀ j,j < d.size->d.toList[j]! = d[j]!:=fun j G=>by rw [vae d j G,vae d.toList j (by simpa using G)];simp
 have n:=AnyQ.slices_IndexFunc (P:=prog) { laysIdxN with } 10 isAgg58 sizeOf58 encE qio p g lb eg a off d.size m d.toList w
  (fun W x A=>(hp W x (qbf A _)).mono fun _ _ ⟨he,c7⟩=>⟨he,A.trans (c7.mono A.size)⟩) js jo H (fun j G i v hv=>by
    have a8:j < d.size:=by simpa using G
    have hi:i < 10:=by
     rcases val i 10 with h' | h'
     .exact h'
     rw [vbr (by rw [qio];exact h')] at hv;cases hv
    rw [tl j a8] at hv
    rw [(hH.cell a8 hi).1,vdg,hv];rfl)
 rw [show d.toList.take d.size=d.toList from vaz js] at n;obtain ⟨I,HK⟩:∃ I:Nat->Bool,Hid (I=fun j=>!p d[j]!):=⟨_,rfl⟩
 have z:(d.toList.filter fun x=>!p x)=keptUpTo I d d.size:=by rw [HK.out];exact (keptUpTo_filter (fun x=>!p x) d).symm
 rw [z];have HH:=hI hH;have HP:=hI hp;rcases idxByFrom_spec (fun _ y=>p y) default d.toList 0 with ⟨e1,f⟩ | ⟨D,c9,e1,ht,f⟩
 .have e2:Lib.idxBy (fun _ y=>p y) d.toList default = -1:=e1
  rw [e2] at n;have b:∀ j,j < d.size->I j=true:=fun j G=>by rw [HK.out];show (!p d[j]!)=true;rw [<-tl j G,f j (by simpa using G)];rfl
  have e3:keptUpTo I d d.size=d.toList:=by rw [keptUpTo_all I d _ b,range_map_get]
  have E:=hI n;clear hH hp n f tl b z e1 e2;have b5:=hI e3;clear e3;go_in;go_wp2_with fail;refine E.out.mono ?_;rintro e w1 ⟨rfl,q⟩;go_wp2;go_ret;rw [b5.out];refine ⟨by simp,qbf q _,?_⟩;have c8:=qge HH.out H q
  have:=RdK.of_holds c8 (B:=w1.heap.size) (vad H q.size)
  simpa using this
 have a9:D < d.size:=by simpa using c9
 have e2:Lib.idxBy (fun _ y=>p y) d.toList default=(D:Int):=by unfold Lib.idxBy;rw [e1];simp
 rw [e2] at n;have b:∀ j,j < D->I j=true:=fun j G=>by rw [HK.out];show (!p d[j]!)=true;rw [<-tl j jo,f j G];rfl
 have s:I D=false:=by rw [HK.out];show (!p d[D]!)=false;rw [<-tl D a9];rw [show p d.toList[D]! = true from ht];rfl
 have d4:((D:Int) == -1)=false:=vch.2 jo;have E:=hI n;have b6:=hI (KeptInv.start (d:=d) b s);clear hH hp n f ht e1 e2 tl b s z;go_in;go_wp2_with fail;refine E.out.mono ?_;rintro e w1 ⟨rfl,q⟩;have b4:=hI q;clear q E;go_wp2
 go_loopg [5,6] d.size (fun gg s5 s6 wr=>∃ (i j:Nat) (l:Array (EN)),s5=.int .i64 i/\s6=.int .i64 j/\j<=d.size/\d.size - j<=gg/\Aside (SrtK encE 10 w a off l wr)/\Aside (KeptInv I d j i l))
 case atStart=>exact ⟨D,D + 1,d,rfl,by go_num,by omega,by omega,(SrtK.refl HH.out H).below b4.out,b6.out⟩
 case round =>
  obtain ⟨i,j,l,rfl,rfl,g1,f9,k,K⟩:=hrel;have g0:=K.out.lt;have f8:=K.out.size;by_cases b1:j < d.size
  .have b2:(j:Int) < (d.size:Int):=by omega
   have X:=(k.out.holds.cell (i:=j) (c:=0) jo jd).1;have Y:=(k.out.holds.cell (i:=j) (c:=1) jo jd).1;have Z:=(k.out.holds.cell (i:=j) (c:=2) jo jd).1;have a0:=(k.out.holds.cell (i:=j) (c:=3) jo jd).1;have a1:=(k.out.holds.cell (i:=j) (c:=4) jo jd).1;have a2:=(k.out.holds.cell (i:=j) (c:=5) jo jd).1;have a3:=(k.out.holds.cell (i:=j) (c:=6) jo jd).1;have a4:=(k.out.holds.cell (i:=j) (c:=7) jo jd).1;have a5:=(k.out.holds.cell (i:=j) (c:=8) jo jd).1;have a6:=(k.out.holds.cell (i:=j) (c:=9) jo jd).1;rw [K.out.high j jo] at X Y Z a0 a1 a2 a3 a4 a5 a6;obtain ⟨u,hu⟩:∃ u,d[j]! = u:=⟨_,rfl⟩
   rw [hu] at X Y Z a0 a1 a2 a3 a4 a5 a6;have C:Aside (d[j]! = u):=hu;clear hu;simp only [encE,vac,vaf,vak] at X Y Z a0 a1 a2 a3 a4 a5 a6;have HC:=hI (fun W (hg:w.grownBy W (some a))=>HP.out W u hg);have d2:(i:Int) < (d.size:Int):=by omega
   have b3:∀ h,Below (wr.alloc (.cells #[.int .i64 u.id,.int .i64 u.ph,.int .i64 u.qu,.int .i64 u.t,.int .i64 u.bal,.int .i64 u.abal,.int .i64 u.seen,.int .i64 u.age,.string u.pay,.slice u.A u.z.size u.c] 58)).heap.size (wr.alloc (.cells #[.int .i64 u.id,.int .i64 u.ph,.int .i64 u.qu,.int .i64 u.t,.int .i64 u.bal,.int .i64 u.abal,.int .i64 u.seen,.int .i64 u.age,.string u.pay,.slice u.A u.z.size u.c] 58)) h->SrtK encE 10 w a off l h/\h.cell? ⟨wr.heap.size,0,none⟩=some (.int .i64 u.id)/\h.cell? ⟨wr.heap.size,1,none⟩=some (.int .i64 u.ph)/\h.cell? ⟨wr.heap.size,2,none⟩=some (.int .i64 u.qu)/\h.cell? ⟨wr.heap.size,3,none⟩=some (.int .i64 u.t)/\h.cell? ⟨wr.heap.size,4,none⟩=some (.int .i64 u.bal)/\h.cell? ⟨wr.heap.size,5,none⟩=some (.int .i64 u.abal)/\h.cell? ⟨wr.heap.size,6,none⟩=some (.int .i64 u.seen)/\h.cell? ⟨wr.heap.size,7,none⟩=some (.int .i64 u.age)/\h.cell? ⟨wr.heap.size,8,none⟩=some (.string u.pay)/\h.cell? ⟨wr.heap.size,9,none⟩=some (.slice u.A u.z.size u.c):=fun h A=>by
    have o:=k.out.below (qaa (bel1 wr _) A);refine ⟨o,?_,?_,?_,?_,?_,?_,?_,?_,?_,?_⟩
    all_goals exact (A.cell (p:=⟨wr.heap.size,_,none⟩) js).trans (qau wr _ _ _)
   have F:=hI b3;clear b3;cases hq:p u with
   | false =>
     rw [hq] at HC;go_wp2_with fail;refine (HC.out _ (qbu k.out.grown (qbf (bel1 wr _) _))).mono ?_;rintro e h ⟨rfl,r⟩;obtain ⟨o,g5,g6,g7,g8,g9,h0,h1,h2,h3,h4⟩:=F.out h r;have HS:=hI o;have L:=o.holds.cell (i:=i) (c:=0) jo jd;have a7:=L.1;have c6:=L.2;have M:=o.holds.cell (i:=i) (c:=1) jo jd;have b7:=M.1;have e8:=M.2;have N:=o.holds.cell (i:=i) (c:=2) jo jd;have b8:=N.1;have e9:=N.2;have O:=o.holds.cell (i:=i) (c:=3) jo jd;have b9:=O.1;have f0:=O.2;have Q:=o.holds.cell (i:=i) (c:=4) jo jd;have c0:=Q.1;have f1:=Q.2;have R:=o.holds.cell (i:=i) (c:=5) jo jd;have c1:=R.1;have f2:=R.2;have S:=o.holds.cell (i:=i) (c:=6) jo jd;have c2:=S.1;have f3:=S.2;have T:=o.holds.cell (i:=i) (c:=7) jo jd;have c3:=T.1;have f4:=T.2;have U:=o.holds.cell (i:=i) (c:=8) jo jd;have c4:=U.1;have f5:=U.2;have V:=o.holds.cell (i:=i) (c:=9) jo jd;have c5:=V.1;have f6:=V.2;simp only [vak] at a7 c6;clear o r HC F L M N O Q R S T U V;generalize (encE l[i]!)[0]! = d5 at a7;generalize (encE l[i]!)[1]! = d6 at b7;generalize (encE l[i]!)[2]! = d7 at b8;generalize (encE l[i]!)[3]! = d8 at b9;generalize (encE l[i]!)[4]! = d9 at c0;generalize (encE l[i]!)[5]! = e0 at c1;generalize (encE l[i]!)[6]! = e4 at c2;generalize (encE l[i]!)[7]! = e5 at c3;generalize (encE l[i]!)[8]! = e6 at c4;generalize (encE l[i]!)[9]! = e7 at c5;go_wp2;go_roundg (d.size - (j + 1))
     case measure=>omega
     case rel =>
      refine ⟨i + 1,j + 1,l.setIfInBounds i u,by go_num,by go_num,by omega,vaa _,HS.out.put qio jo u,(show Aside _ from ?_)⟩
      have:=K.out.keep b1 (by rw [HK.out];show (!p d[j]!)=true;rw [C.out,hq];rfl)
      rwa [C.out] at this
   | true =>
     rw [hq] at HC;go_wp2_with fail;refine (HC.out _ (qbu k.out.grown (qbf (bel1 wr _) _))).mono ?_;rintro e h ⟨rfl,r⟩;have HS:=hI (F.out h r).1;clear r HC F;go_wp2;go_roundg (d.size - (j + 1))
     case measure=>omega
     case rel=>exact ⟨i,j + 1,l,rfl,by go_num,by omega,vaa _,HS.out,K.out.skip (by rw [HK.out];show (!p d[j]!)=false;rw [C.out,hq];rfl)⟩
  obtain rfl:j=d.size:=by omega
  have b2:¬ (d.size:Int) < (d.size:Int):=by omega
  have d2:(i:Int) < (d.size:Int):=by omega
  have g4:(i:Int)<=(m:Int):=by omega
  have g2:(m=i)=False:=by simp;omega
  obtain ⟨zs,d1,f7⟩:∃ zs,zs=zs/\∀ ty,(Builtin.clear_ #[22] ty #[.slice (some ⟨a,off + i * 10,none⟩) (d.size - i) (m - i)]).run prog wr=.ok (.tuple #[]) (wr.setCells a (off + i * 10) zs):=by
   refine ⟨_,rfl,fun ty=>qfh wr _ _ ty _ underlying22 zeroValue58 (qho _ _ (by simp [Value.cells,Value.oneCell'])) a (off + i * 10) _ jo (fun t ht=>?_) (fun t ht=>?_)⟩
   all_goals
    rw [qhn] at ht;have d0:t < (d.size - i) * 10:=ht;have A:=k.out.holds (i * 10 + t) (by rw [size_flatK];have:=vce 10 (show i<=d.size by omega);rw [Nat.sub_mul] at d0;omega);rw [<-vdl] at A
   .rw [A.1];rfl
   exact A.2
  have HS:=hI k.out;have HI:=hI K.out;clear d1 k K;go_wp2;go_ret;have b0:=HI.out.len;refine ⟨?_,?_,?_⟩
  .simp only [b0];rfl
  .exact qbu HS.out.grown (qed _ _ _ _)
  have:=qvm HS.out HI.out zs
  simpa using this
theorem qwb:(prog.info? 58).map (fun i=>(i.zero,i.size,i.bytes))=some (some (.agg #[.int .i64 0,.int .i64 0,.int .i64 0,.int .i64 0,.int .i64 0,.int .i64 0,.int .i64 0,.int .i64 0,.string ⟨#[]⟩,.slice none 0 0]),10,104):=by kernel_rfl
theorem newL (W:World) (l:List Value) (t:TypeId):∀ j u,l[j]?=some u->(W.alloc (.cells l.toArray t)).cell? ((⟨W.heap.size,0,none⟩:Addr).add j)=some u:=by
 intro j u a;rw [Addr.add_lit,vcc,qau];rw [<-a];simp
theorem qma {w wr b:World} {B:Nat} {o:Obj} {e:TypeId} {s n:Nat} {v:Value} {h:List Value} (d:Below B w wr) (c:B<=wr.heap.size) (a:wr.ownsRow B e s v n h) (f:(wr.alloc o).grownBy b v.ownBlock):Below B w b :=
 (d.alloc c o).grown f jso (fun k g=>(a.lt k g).1)
theorem qjm {w W:World} {B s n:Nat} {e:TypeId} {v:Value} {f:List Value} (h:w.ownsRow B e s v n f) (k:Below w.heap.size w W):W.ownsRow B e s v n f:=by
 obtain ⟨c,i | ⟨g,a,b,m,j,d,l⟩⟩:=h
 .exact ⟨c,Or.inl i⟩
 exact ⟨c,Or.inr ⟨g,a,b,m,j,(k.block g (blkL d)).trans d,l⟩⟩
theorem CloneN (A:Option Addr) (c:Nat) (d:Array EN) (w:World) (h:RdK encE 10 w.heap.size w A d) (F:d.size<=1000000) :
 Calls prog 62 #[.slice A d.size c] w fun e s=>∃ v,e=.returned v/\s.ownsRow w.heap.size 58 10 v d.size (flatK encE 10 d).toList/\Below w.heap.size w s:=by
 obtain ⟨z,m,o,p,q⟩:=vbo qwb;cases A with
 | none =>
   have g:d.size=0:=by
    rcases vba d.size with g | g
    .exact g
    obtain ⟨b,B,e,_⟩:=h g;cases e
   obtain rfl:d=#[]:=var g;exact (AnyE.slices_Clone_nil laysCloneN 0 c w).mono fun e s ⟨u,y⟩=>⟨_,u,qbk _ _ _ _ _,by rw [y];exact vag _ _⟩
 | some ad =>
   have t:=hI h;clear h;have C:∀ (w:World) (a:Option Addr) (n c r i:Nat),(binOp .eql 22 (.slice a n c) (.slice none r i)).run prog w=.ok (.bool a.isNone) w:=fun w a n c r i=>veq w _ _ a n c r i underlying22
   go_in;go_wp2_with (at_builtin;refine qcq encE_1 qio jd rfl (.tmp 5) (.tmp 6) 22 rfl w.heap.size 58 z (.agg #[.int .i64 0,.int .i64 0,.int .i64 0,.int .i64 0,.int .i64 0,.int .i64 0,.int .i64 0,.int .i64 0,.string ⟨#[]⟩,.slice none 0 0]) 104 underlying22 m o p q rfl _ #[] rfl (qba w 58 encE 10) w.heap.size (some ad) c d rfl (t.out.alloc (vaa _) _) (fun h=>by cases h) jso jd js ?_;intro D E f l _);go_ret;have j:Below w.heap.size w E:=(bel1 w _).grown l js (fun k x=>((qba w 58 encE 10).lt k x).1);exact ⟨D,rfl,by simpa using f,j⟩
def qgw (upto:Int) (x:EN):Bool:=decide (x.ph=6/\x.t<=upto)
theorem drop1_any (x:EN) (n:Int) (g:Nat) (w:World) (d:g < w.heap.size) (b:w.cell? ⟨g,0,none⟩=some (.int .i64 n)) :
 Calls prog 166 #[.agg (encE x).toArray,.pointer (some ⟨g,0,none⟩)] w fun e f=>e=.returned (.bool (qgw n x))/\Below w.heap.size w f:=by
 have c:∀ o,(w.alloc o).cell? ⟨g,0,none⟩=some (.int .i64 n):=fun o=>(vbq w _ _ d).trans b
 have a:Hid (∀ o,Below w.heap.size w (w.alloc o)):=hI (fun o=>bel1 w o);simp only [encE];go_in;go_wp2
 all_goals
  go_ret;refine ⟨qff ?_,a.out _⟩
  grind
theorem delNil (g:Nat) (lb:Array Value) (w:World) :
 Calls prog 165 #[.slice none 0 0,.func (.func g) #[] lb] w fun e a=>e=.returned (.slice none 0 0)/\Below w.heap.size w a:=by
 have b:Hid (Calls prog 56 #[.slice none 0 0,.func (.func g) #[] lb] w fun e a=>e=.returned (.int .i64 (-1))/\a=w):=by
  show Calls _ _ _ _ _;go_in;go_wp2;refine vdi 1 ?_;rw [vcy];go_wp2;go_ret;exact ⟨rfl,rfl⟩
 go_in;go_wp2_with fail;refine b.out.mono ?_;rintro e c ⟨rfl,rfl⟩;go_wp2;go_ret;exact ⟨rfl,vag _ _⟩
def qdy (upto:Int) (d:Array EN):Array EN:=(d.toList.filter fun x=>!qgw upto x).toArray
theorem qki (a:Int) (d:Array EN):(qdy a d).size<=d.size:=by
 unfold qdy;simpa using vcf (fun x=>!qgw a x) d.toList
theorem RdT.sub {w w':World} {A c:Option Addr} {d a:Array EN} (h:RdT w A d) (k:Below w.heap.size w w') (o:RdK encE 10 w'.heap.size w' c a) (p:a.size<=1000) (n:∀ x ∈ a.toList,x ∈ d.toList):RdT w' c a:=by
 refine ⟨o,fun i l=>?_,p⟩;have g:=n a[i]! (by rw [vae a i l];simp);obtain ⟨j,m,e⟩:=List.getElem_of_mem g;have b:j < d.size:=by simpa using m
 have:=h.el j b
 rw [vae d j b] at this;have f:d[j]=a[i]!:=by rw [<-e];simp
 rw [f] at this;exact this.below k
theorem qhv {a:Int} {d:Array EN}:∀ x ∈ (qdy a d).toList,x ∈ d.toList:=by
 intro x b;unfold qdy at b;simp only [vck] at b;exact b.1
def qoc (upto:Int) (d:Array EN) (k:Nat):Array EN:=((d.toList.take k).filter fun x=>!qgw upto x).toArray
theorem qyn {a:Int} {d:Array EN} {k:Nat} (b:k < d.size):qoc a d (k + 1)=if qgw a d[k]! = true then qoc a d k else (qoc a d k).push d[k]!:=by
 unfold qoc;rw [vdb,vbl (by simpa using b),vdq];rw [vae d k b];have e:d.toList[k]'(by simpa using b)=d[k]:=by simp
 rw [e];cases c:qgw a d[k] <;> simp [c]
theorem keepK_all {a:Int} {d:Array EN}:qoc a d d.size=qdy a d:=by
 unfold qoc qdy;rw [vaz js]
theorem qyo (A:Option Addr) (c:Nat) (d:Array EN) (n:Int) (w:World) (h:RdT w A d) :
 Calls prog 83 #[.slice A d.size c,.int .i64 n] w fun e N=>∃ D P,e=.returned (.slice D (qdy n d).size P)/\RdT N D (qdy n d)/\(∀ g l,D=some ⟨g,l,none⟩->w.heap.size<=g)/\Below w.heap.size w N:=by
 have O:=hI h;have J:=hI (CloneN A c d (w.alloc (.cells #[.int .i64 n] 3)) (h.below (bel1 w _)).rd (jg h.sz));have E:=hI (bel1 w (.cells #[.int .i64 n] 3));have V:=h.sz;clear h;go_in;go_wp2_with fail;refine J.out.mono ?_;rintro e C ⟨v,rfl,a,j⟩;have o:=hI (qaa E.out j);have t:w.heap.size < C.heap.size:=by have:=j.size;simp at this;omega
 have s:C.cell? ⟨w.heap.size,0,none⟩=some (.int .i64 n):=(j.cell (p:=⟨w.heap.size,0,none⟩) js).trans (qau w _ _ 0);clear j J;by_cases m:v=.slice none 0 0
 .subst m
  have U:d=#[]:=by
   obtain ⟨_,⟨_,R⟩ | ⟨g,f,G,m,_⟩⟩:=a
   .exact var R
   cases m
  subst U;have B:=hI (delNil 166 #[.pointer (some ⟨w.heap.size,0,none⟩)] C);clear a;go_wp2_with fail;refine B.out.mono ?_;rintro e w2 ⟨rfl,q⟩;have b:=hI (qaa o.out q);clear q;go_wp2;go_ret;exact ⟨none,0,rfl,⟨fun h=>absurd h (by simp [qdy]),fun i Z=>absurd Z (by simp [qdy]),by simp [qdy]⟩,(fun g l e=>by cases e),b.out⟩
 obtain ⟨g,f,rfl,X,u,T⟩:=qbl a m;have r:d.size<=f:=by
  obtain ⟨_,⟨S,_⟩ | ⟨Q,K,G,I,_,_,H,_⟩⟩:=a
  .exact absurd S m
  injection I with _ _ hc'
  rw [hc'];exact H
 have Y:w.heap.size < g:=by simp at X;omega
 have B:=hI (entDel (qgw n) 166 #[.pointer (some ⟨w.heap.size,0,none⟩)] (veb func166 jk rfl) g 0 f d C
  (fun W x L=>drop1_any x n w.heap.size W (vad t L.size) (by
    have:=L.block w.heap.size t (by intro e;injection e with e;omega)
    unfold World.cell? at s |-
    simp only [this]
    exact s)) T u jo r)
 clear a m;go_wp2_with fail;refine B.out.mono ?_;rintro e w2 ⟨rfl,y,z⟩;have b:=hI (o.out.grown y jo (fun k M=>by injection M with M;omega));have F:=hI z;clear y z B;go_wp2;go_ret;exact ⟨_,f,rfl,O.out.sub b.out F.out (by have:=qki n d;omega) qhv,(fun Q l e=>by injection e with e;injection e with e1 e2;omega),b.out⟩
theorem qyp (A:Option Addr) (c:Nat) (d:Array EN) (n:Int) (w:World) (h:RdT w A d) :
 Calls prog 103 #[.slice A d.size c,.int .i64 n] w fun e Y=>∃ r v,e=.returned (.slice r (qdy n d).size v)/\RdT Y r (qdy n d)/\(∀ g q,r=some ⟨g,q,none⟩->w.heap.size<=g)/\Below w.heap.size w Y:=by
 obtain ⟨i0,y,D,E,F⟩:=vbo qwb;have I:=hI h;have a1:=h.sz;clear h;go_in;go_wp2
 go_loopw [5,6] (fun m i wr=>∃ (k:Nat) (a:Array EN),i=.int .i64 k/\k<=d.size/\a.size<=k/\Hid (a=qoc n d k)/\wr.ownsRow w.heap.size 58 10 m a.size (flatK encE 10 a).toList/\Hid (Below w.heap.size w wr)) (fun _ i _=>d.size - (intOf i).toNat)
 case atStart=>exact ⟨0,#[],rfl,vaj _,vaa _,rfl,qbk _ _ _ _ _,hI (vag _ _)⟩
 case round =>
  obtain ⟨k,a,rfl,hk,a2,G,j,l⟩:=hrel;obtain ⟨Am,cm,rfl,_,_⟩:=qaq j;by_cases C:k < d.size
  .have kz:(k:Int) < (d.size:Int):=by omega
   obtain ⟨b,q,rfl,a0,f⟩:=(I.out.below l.out).rd.at_ (i:=k) jo;have M:=f 0 jo;have N:=f 1 jo;have s:=f 2 jo;have O:=f 3 jo;have P:=f 4 jo;have Q:=f 5 jo;have R:=f 6 jo;have S:=f 7 jo;have T:=f 8 jo;have U:=f 9 jo;have u:Hid (qoc n d (k + 1)=if qgw n d[k]! = true then a else a.push d[k]!):=by
    show _=_;rw [qyn C,G.out]
   obtain ⟨x,X⟩:∃ x,d[k]! = x:=⟨_,rfl⟩
   rw [X] at M N s O P Q R S T U u;clear f X;simp only [vak,encE,vac,vaf] at M N s O P Q R S T U;obtain ⟨J,h1⟩:∃ b,(x.ph != 6)=b:=⟨_,rfl⟩
   obtain ⟨K,h2⟩:∃ b,decide (n < x.t)=b:=⟨_,rfl⟩
   have H:Hid (qgw n x = !(J || K)):=by
    show _=_;rw [<-h1,<-h2];unfold qgw;by_cases g1:x.ph=6 <;> by_cases g2:n < x.t <;> simp [g1,g2] <;> omega
   cases J <;> cases K
   .have t:Hid (a=qoc n d (k + 1)):=by show _=_;rw [u.out,H.out];rfl
    go_wp2;go_roundw
    case rel=>exact ⟨k + 1,a,by go_num,by omega,by omega,t,j,l⟩
    case measure=>simp [intOf];omega
   all_goals
    have t:Hid (a.push x=qoc n d (k + 1)):=by show _=_;rw [u.out,H.out];rfl
    go_wp2_with (at_builtin;refine vay _ rfl _ _ 22 rfl w.heap.size 58 i0 (.agg #[.int .i64 0,.int .i64 0,.int .i64 0,.int .i64 0,.int .i64 0,.int .i64 0,.int .i64 0,.int .i64 0,.string ⟨#[]⟩,.slice none 0 0]) 10 104 underlying22 y D E F rfl jd _ _ _ rfl (j.alloc _) ⟨wr.heap.size,0,none⟩ 1 1 [.int .i64 x.id,.int .i64 x.ph,.int .i64 x.qu,.int .i64 x.t,.int .i64 x.bal,.int .i64 x.abal,.int .i64 x.seen,.int .i64 x.age,.string x.pay,.slice x.A x.z.size x.c] rfl rfl (newL wr _ _) jV jl jo (by have:=l.out.size;simp;omega) ?_;intro v' w4 p o _);exact ⟨⟨k + 1,a.push x,by go_num,by omega,by simp;omega,t,(by rw [vbk,qax qio];exact p),hI (qma l.out l.out.size j o)⟩,by simp [intOf];omega⟩
  have V:decide ((k:Int) < (d.size:Int))=false:=by simp;omega
  have z:k=d.size:=by omega
  have Z:Hid (a=qdy n d):=by show _=_;rw [G.out,z,keepK_all]
  go_wp2;go_ret;have B:∀ g,_=some g->w.heap.size<=g:=fun g e=>(j.lt g e).1
  obtain ⟨r,v,L,hr,_⟩:=qaq j;have he:=Z.out;subst he;exact ⟨r,v,congrArg Ending.returned L,I.out.sub l.out hr jo qhv,(fun g q s=>B g (by rw [L,s];rfl)),l.out⟩
