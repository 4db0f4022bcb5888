/- Texts that the law leans on. -/
import Derived.Test.YtdcfffhoajmafaaGreatQStC
import Derived.Test.YtdcfffhoajmafaaGreatQEnC
set_option maxRecDepth 100000
set_option maxHeartbeats 8000000
namespace Go.Proofs.YtdcfffhoajmafaaGreat
open Go.RowKit Go.Sort Go.Lib Go.Proofs.Tryz
structure BoxR (w:World) (cs:Array Value) (T:TypeId) (W:World):Prop where
 b:Below w.heap.size w W
 row:W.heap[w.heap.size]?=some (.cells cs T (0,0))
theorem BoxR.init (w:World) (cs:Array Value) (t:TypeId):BoxR w cs t (w.alloc (.cells cs t)):=⟨bel1 w _,vaw w _⟩
theorem BoxR.lt {w W:World} {cs:Array Value} {t:TypeId} (h:BoxR w cs t W):w.heap.size < W.heap.size:=by
 rcases val w.heap.size W.heap.size with g | g
 .exact g
 have:=h.row
 rw [vbn g] at this;cases this
theorem BoxR.next {w W W':World} {cs:Array Value} {t:TypeId} (h:BoxR w cs t W) (a:Below W.heap.size W W'):BoxR w cs t W' :=
 ⟨qaa h.b a,(a.block _ h.lt).trans h.row⟩
theorem BoxR.at_ {w W:World} {cs:Array Value} {t:TypeId} (h:BoxR w cs t W) (j:Nat) {v:Value} (a:cs[j]?=some v):W.cell? ⟨w.heap.size,j,none⟩=some v:=by
 rw [vas W _ j cs t (0,0) h.row];exact a
theorem BoxR.box {w W:World} {cs:Array Value} {t:TypeId} (h:BoxR w cs t W) {n:Nat} (a:cs.size=n):qdd W w.heap.size n=true:=qdx h.row a
theorem BoxR.rowAt {w W:World} {cs:Array Value} {t:TypeId} (h:BoxR w cs t W):rowAt W w.heap.size=cs:=qef h.row
attribute [local go_sem ↓] qap qan
attribute [local go_sem] qaw qej
def doneI (r:RP) (id:Int):Bool:=decide (1<=qat id/\qat id<=r.n) && qbg r.d.z[(qat id).toNat - 1]!.z (qfx id)
theorem done0_any (r:RP) (id:Int) (w:World) (R:RdK encW 1 w.heap.size w r.d.A r.d.z) (A:∀ i,i < r.d.z.size->RdK encR 2 w.heap.size w r.d.z[i]!.A r.d.z[i]!.z) (S:(r.d.z.size:Int)=r.n) (Z:r.d.z.size<=1000) :
 Calls prog 174 #[.agg (encP r).toArray,.int .i64 id] w fun e m=>e=.returned (.bool (doneI r id))/\Below w.heap.size w m:=by
 have b:=hI (BoxW.init w (encP r).toArray 35);have D:=hI R;have E:=hI A;have U:=hI S;obtain ⟨f,o⟩:∃ s,qat id=s:=⟨_,rfl⟩
 have F:Hid (∀ W,Calls prog 66 #[.int .i64 id] W fun e m=>e=.returned (.int .i64 f)/\W=m):=fun W=>o ▸ qph id W
 have g:Hid (doneI r id=(decide (1<=f/\f<=r.n) && qbg r.d.z[f.toNat - 1]!.z (qfx id))):=by show _=_;unfold doneI;rw [o]
 clear R A S o;simp only [encP] at b |-
 by_cases C:1<=f
 .by_cases M:f<=r.n
  .have y:decide (1<=f)=true:=vah C
   have N:decide (f<=r.n)=true:=vah M;obtain ⟨k,V⟩:∃ k:Nat,f=(k:Int) + 1:=⟨(f - 1).toNat,by omega⟩
   have O:k < r.d.z.size:=by have:=U.out;omega
   have B:f - 1=(k:Int):=by omega
   have X:IntKind.i64.wrap (f - 1)=(k:Int):=by rw [B];exact vcu _ jo
   have kd:(k:Int) < (r.d.z.size:Int):=by omega
   have n:Hid (doneI r id=qbg r.d.z[k]!.z (qfx id)):=by
    show _=_;rw [g.out,vah ⟨C,M⟩,vcn,show f.toNat - 1=k by omega]
   obtain ⟨K,j,z,l,Q⟩:=D.out.at_ (i:=k) jo;have L:=Q 0 jo;have v:=hI (E.out k O);obtain ⟨u,T⟩:∃ u,r.d.z[k]! = u:=⟨_,rfl⟩
   rw [T] at L v n;clear Q T g V;simp only [vak,vcq,encW,RW.v,vac] at L;rw [z] at b |-
   clear z;go_in;go_wp2_with (go_at_call 66;refine (F.out _).mono ?_;rintro _ _ ⟨rfl,rfl⟩);obtain ⟨t,d⟩:∃ W,W=w.alloc (.cells #[.int .i64 r.n,.int .i64 r.f,.int .i64 r.self,.int .i64 r.clock,.int .i64 r.seq,.int .i64 r.floor,.int .i64 r.ticks,.slice r.e.A r.e.z.size r.e.c,.slice r.o.A r.o.z.size r.o.c,.slice r.k.A r.k.z.size r.k.c,.slice r.m.A r.m.z.size r.m.c,.slice r.fr.A r.fr.z.size r.fr.c,.slice (some ⟨K,j,none⟩) r.d.z.size r.d.c,.int .i64 r.lt,.int .i64 r.lid,.int .i64 r.count,.slice r.it.A r.it.z.size r.it.c,.slice r.ss.A r.ss.z.size r.ss.c] 35):=⟨_,rfl⟩
   rw [<-d] at b |-
   clear d;have h:=b.out.lt;have H:=fun p:ExtW t=>p.cell (a:=⟨w.heap.size,0,none⟩) h (b.out.at_ 0)
   have I:=fun p:ExtW t=>p.cell (a:=⟨w.heap.size,12,none⟩) h (b.out.at_ 12)
   have J:=fun p:ExtW t=>p.cell (a:=⟨K,j + k,none⟩) (Nat.lt_trans l h) ((b.out.b.cell (p:=⟨K,j + k,none⟩) l).trans L)
   have P:=hI (fun p:ExtW t=>qkc u.A u.c u.z (qfx id) p.to (((v.out.below b.out.b).mono b.out.b.size |>.below p.h).mono p.h.size));obtain ⟨Y,q⟩:∃ s,qfx id=s:=⟨_,rfl⟩
   have G:Hid (∀ W,Calls prog 227 #[.int .i64 id] W fun e m=>e=.returned (.int .i64 Y)/\W=m):=fun W=>q ▸ Seq_any id W
   rw [q] at P n;clear q;refine wprX ?_
   repeat (first | go_big_quiet_step ((first | (go_at_call 227;exact Calls.ext_same (G.out _)) | (go_at_call 71;exact Calls.ext_of (P.out _)))) | quiet_step (fail))
   refine wpQn fun m c=>?_
   have x:=hI (qaa b.out.b c);clear c H I J;go_wp2;go_ret;exact ⟨qad n.out.symm,x.out⟩
  have y:decide (1<=f)=true:=vah C;have N:decide (f<=r.n)=false:=vab M;have n:Hid (doneI r id=false):=by show _=_;rw [g.out,vab jo];rfl
  clear g;go_in;go_wp2_with (go_at_call 66;refine (F.out _).mono ?_;rintro _ _ ⟨rfl,rfl⟩);obtain ⟨t,d⟩:∃ W,W=w.alloc (.cells #[.int .i64 r.n,.int .i64 r.f,.int .i64 r.self,.int .i64 r.clock,.int .i64 r.seq,.int .i64 r.floor,.int .i64 r.ticks,.slice r.e.A r.e.z.size r.e.c,.slice r.o.A r.o.z.size r.o.c,.slice r.k.A r.k.z.size r.k.c,.slice r.m.A r.m.z.size r.m.c,.slice r.fr.A r.fr.z.size r.fr.c,.slice r.d.A r.d.z.size r.d.c,.int .i64 r.lt,.int .i64 r.lid,.int .i64 r.count,.slice r.it.A r.it.z.size r.it.c,.slice r.ss.A r.ss.z.size r.ss.c] 35):=⟨_,rfl⟩
  rw [<-d] at b |-
  clear d;have h:=b.out.lt;have H:=fun p:ExtW t=>p.cell (a:=⟨w.heap.size,0,none⟩) h (b.out.at_ 0)
  refine wprX ?_
  repeat (go_big_quiet_step (fail))
  refine wpQn fun m c=>?_
  have x:=hI (qaa b.out.b c);clear c H;go_wp2;go_ret;exact ⟨qad n.out.symm,x.out⟩
 have y:decide (1<=f)=false:=vab C;have n:Hid (doneI r id=false):=by show _=_;rw [g.out,vab jo];rfl
 clear g;go_in;go_wp2_with (go_at_call 66;refine (F.out _).mono ?_;rintro _ _ ⟨rfl,rfl⟩);obtain ⟨t,d⟩:∃ W,W=w.alloc (.cells #[.int .i64 r.n,.int .i64 r.f,.int .i64 r.self,.int .i64 r.clock,.int .i64 r.seq,.int .i64 r.floor,.int .i64 r.ticks,.slice r.e.A r.e.z.size r.e.c,.slice r.o.A r.o.z.size r.o.c,.slice r.k.A r.k.z.size r.k.c,.slice r.m.A r.m.z.size r.m.c,.slice r.fr.A r.fr.z.size r.fr.c,.slice r.d.A r.d.z.size r.d.c,.int .i64 r.lt,.int .i64 r.lid,.int .i64 r.count,.slice r.it.A r.it.z.size r.it.c,.slice r.ss.A r.ss.z.size r.ss.c] 35):=⟨_,rfl⟩
 rw [<-d] at b |-
 clear d;have h:=b.out.lt;refine wprX ?_
 repeat (go_big_quiet_step (fail))
 refine wpQn fun m c=>?_
 have x:=hI (qaa b.out.b c);clear c;go_wp2;go_ret;exact ⟨qad n.out.symm,x.out⟩
theorem zaw (r:RP) (id:Int) (w:World) (c:Int) (Y:RdK encW 1 w.heap.size w r.d.A r.d.z) (F:∀ i,i < r.d.z.size->RdK encR 2 w.heap.size w r.d.z[i]!.A r.d.z[i]!.z) (H:c=0->(r.d.z.size:Int)=r.n) (hz:r.d.z.size<=1000)
 (X:∀ W,Below w.heap.size w W->Calls prog 48 #[.agg (encP r).toArray] W fun e J=>e=.returned (.int .i64 c)/\Below W.heap.size W J) :
 Calls prog 107 #[.agg (encP r).toArray,.int .i64 id] w fun e J=>e=.returned (.bool ((c == 0) && doneI r id))/\Below w.heap.size w J:=by
 have A:=hI X;obtain ⟨x,T⟩:∃ x,((c == 0) && doneI r id)=x:=⟨_,rfl⟩
 rw [T];obtain ⟨g,t⟩:∃ s,qat id=s:=⟨_,rfl⟩
 obtain ⟨O,v⟩:∃ s,qfx id=s:=⟨_,rfl⟩
 have L:Hid (∀ W,Calls prog 117 #[.int .i64 id] W fun e J=>e=.returned (.tuple #[.int .i64 g,.int .i64 O])/\W=J):=fun W=>t ▸ v ▸ qdu id W
 have f:Hid (x=((c == 0) && (decide (1<=g/\g<=r.n) && qbg r.d.z[g.toNat - 1]!.z O))):=by show _=_;rw [<-T];unfold doneI;rw [t,v]
 obtain ⟨j,b⟩:∃ j,j=(encP r).toArray:=⟨_,rfl⟩
 have h:j.size=18:=by rw [b];rfl
 have HZ:(prog.info? 35).map (·.size)=some j.size:=by rw [h];kernel_rfl
 have q0:j[0]?=some (.int .i64 r.n):=by rw [b];rfl
 have y:j[12]?=some (.slice r.d.A r.d.z.size r.d.c):=by rw [b];rfl
 rw [<-b] at A |-
 have B:=hI q0;have l:=hI Y;have m:=hI F;have K:=hI H;simp only [encP] at b;rw [b];clear X T t v q0 Y F H;by_cases Q:c=0
 .subst Q
  have H:=K.out rfl;by_cases z:1<=g/\g<=r.n
  .obtain ⟨k,hk⟩:∃ k:Nat,g=(k:Int) + 1:=⟨(g - 1).toNat,by omega⟩
   have S:k < r.d.z.size:=by omega
   have kd:(k:Int) < (r.d.z.size:Int):=by omega
   have q:Hid (x=qbg r.d.z[k]!.z O):=by
    show _=_;rw [f.out,vah z,show g.toNat - 1=k by omega];rfl
   obtain ⟨b2,I,E,G,V⟩:=l.out.at_ (i:=k) jo;have M:=V 0 jo;have D:=hI (m.out k S);obtain ⟨u,Z⟩:∃ u,r.d.z[k]! = u:=⟨_,rfl⟩
   rw [Z] at M D q;rw [E] at y;have C:=hI y;have h2:=z.2;subst hk;clear V Z f z E y l m K H;simp only [vak,vcq,encW,RW.v,vac] at M;go_in;rw [<-b];clear b;have a:=hI (BoxR.init w j 35);have n:=a.out.box h;have o:=a.out.rowAt
   go_wp2_with (first
    | (go_at_call 117;refine (L.out _).mono ?_;rintro _ _ ⟨rfl,rfl⟩)
    | (go_at_call 48;refine (A.out _ a.out.b).mono ?_;rintro _ U ⟨rfl,d⟩;have a:=hI (a.out.next d);clear d;have n:=a.out.box h;have o:=a.out.rowAt;have c0:=a.out.at_ 0 B.out;have a0:=a.out.at_ 12 C.out;have M:=(a.out.b.cell (p:=⟨b2,I + k,none⟩) G).trans M)
    | (go_at_call 182;refine (qnb u.A u.c u.z O w.heap.size _ (D.out.below a.out.b)).mono ?_;rintro _ w2 ⟨rfl,d⟩;have a:=hI (a.out.next d);clear d;have n:=a.out.box h;have o:=a.out.rowAt))
   go_ret;exact ⟨qad q.out.symm,a.out.b⟩
  have q:Hid (x=false):=by show _=_;rw [f.out,vab z];rfl
  clear f l m K H;by_cases N:0 < g
  .have P:decide (0 < g)=true:=vah N
   have a1:decide (g<=r.n)=false:=by simp;omega
   clear z N;go_in;rw [<-b];clear b;have a:=hI (BoxR.init w j 35);have n:=a.out.box h;have o:=a.out.rowAt
   go_wp2_with (first
    | (go_at_call 117;refine (L.out _).mono ?_;rintro _ _ ⟨rfl,rfl⟩)
    | (go_at_call 48;refine (A.out _ a.out.b).mono ?_;rintro _ U ⟨rfl,d⟩;have a:=hI (a.out.next d);clear d;have n:=a.out.box h;have o:=a.out.rowAt;have c0:=a.out.at_ 0 B.out))
   go_ret;exact ⟨qad q.out.symm,a.out.b⟩
  have P:decide (0 < g)=false:=vab N;clear z N;go_in;rw [<-b];clear b;have a:=hI (BoxR.init w j 35);have n:=a.out.box h;have o:=a.out.rowAt
  go_wp2_with (first
   | (go_at_call 117;refine (L.out _).mono ?_;rintro _ _ ⟨rfl,rfl⟩)
   | (go_at_call 48;refine (A.out _ a.out.b).mono ?_;rintro _ U ⟨rfl,d⟩;have a:=hI (a.out.next d);clear d;have n:=a.out.box h;have o:=a.out.rowAt))
  go_ret;exact ⟨qad q.out.symm,a.out.b⟩
 have R:(c == 0)=false:=vch.2 Q;have q:Hid (x=false):=by show _=_;rw [f.out,R];rfl
 clear f l m K Q;go_in;rw [<-b];clear b;have a:=hI (BoxR.init w j 35);have n:=a.out.box h;have o:=a.out.rowAt
 go_wp2_with (first
  | (go_at_call 117;refine (L.out _).mono ?_;rintro _ _ ⟨rfl,rfl⟩)
  | (go_at_call 48;refine (A.out _ a.out.b).mono ?_;rintro _ U ⟨rfl,d⟩;have a:=hI (a.out.next d);clear d;have n:=a.out.box h;have o:=a.out.rowAt))
 go_ret;exact ⟨qad q.out.symm,a.out.b⟩
