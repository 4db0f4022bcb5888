/- Texts that the law leans on. -/
import Derived.Lib.SmallJoins
import Derived.Test.YtdcfffhoajmafaaGreatQDelA
import Derived.Test.YtdcfffhoajmafaaGreatQLaw
import Derived.Test.YtdcfffhoajmafaaGreatQClkB
set_option maxRecDepth 100000
set_option maxHeartbeats 8000000
namespace Go.Proofs.YtdcfffhoajmafaaGreat
open Go.ChangeShapes Go.WideShapes Go.ChangeAt Go.RowKit Go.Deep Go.Joins Go.Proofs.Tryz
section
variable {H:Type} {enc:TypeId×Value->H} {P:Program} {w:World}
end
def fewK (k:KN):Bool:=decide (k.rs.size<=100) && decide (k.ats.size<=100)
theorem qpx {k:KN}:fewK k=true↔k.rs.size<=100/\k.ats.size<=100:=by unfold fewK;simp
theorem Few16_any (v:Value) (k:KN) (w:World) (h:KnV w v k):Calls prog 22 #[v] w fun e m=>e=.returned (.bool (fewK k))/\Below w.heap.size w m:=by
 obtain ⟨b,c,a⟩:=k;obtain ⟨n,p,o,q,rfl,_⟩:=h;have i:Hid (fewK ⟨b,c,a⟩=(decide (c.size<=100) && decide (a.size<=100))):=hI rfl;by_cases f:c.size<=100
 .have j:decide ((c.size:Int)<=100)=true:=vah jo
  by_cases g:a.size<=100
  .have l:decide ((a.size:Int)<=100)=true:=vah jo
   have d:Hid (fewK ⟨b,c,a⟩=true):=by show _=_;rw [i.out];simp [f,g]
   clear f g;go_in;go_wp2;go_ret;exact ⟨qad d.out.symm,bel1 w _⟩
  have l:decide ((a.size:Int)<=100)=false:=vab jo;have d:Hid (fewK ⟨b,c,a⟩=false):=by show _=_;rw [i.out];simp [g]
  clear f g;go_in;go_wp2;go_ret;exact ⟨qad d.out.symm,bel1 w _⟩
 have j:decide ((c.size:Int)<=100)=false:=vab jo;have d:Hid (fewK ⟨b,c,a⟩=false):=by show _=_;rw [i.out];simp [f]
 clear f;go_in;go_wp2;go_ret;exact ⟨qad d.out.symm,bel1 w _⟩
end Go.Proofs.YtdcfffhoajmafaaGreat
namespace Go.Proofs.YtdcfffhoajmafaaGreat
open Go.RowKit Go.Sort Go.Lib Go.Proofs.Tryz
structure RdW {α:Type} [Inhabited α] (en:α->List Value) (k:Nat) (w:World) (x:RW α):Prop where
 rd:RdK en k w.heap.size w x.A x.z
 cz:x.z.size<=x.c
 no:x.A=none->x.c=0
theorem RdW.below {α:Type} [Inhabited α] {en:α->List Value} {k:Nat} {w w':World} {x:RW α} (h:RdW en k w x) (a:Below w.heap.size w w'):RdW en k w' x:=⟨(h.rd.below a).mono a.size,h.cz,h.no⟩
def KE.kn (k:KE):KN:=⟨k.base,k.r.z,k.a.z⟩
structure RdN {α:Type} [Inhabited α] (en:α->List Value) (k:Nat) (w:World) (x:RW α):Prop where
 rd:RdK en k w.heap.size w x.A x.z
 no:x.A=none->x.c=0
theorem RdN.below {α:Type} [Inhabited α] {en:α->List Value} {k:Nat} {w w':World} {x:RW α} (h:RdN en k w x) (a:Below w.heap.size w w'):RdN en k w' x:=⟨(h.rd.below a).mono a.size,h.no⟩
structure RdKE (w:World) (k:KE):Prop where
 r:RdN encR 2 w k.r
 a:RdN qae 2 w k.a
theorem RdKE.below {w w':World} {k:KE} (h:RdKE w k) (a:Below w.heap.size w w'):RdKE w' k:=⟨h.r.below a,h.a.below a⟩
theorem RdKE.knV {w:World} {k:KE} (h:RdKE w k):KnV w (.agg (qav k).toArray) k.kn:=⟨k.r.A,k.r.c,k.a.A,k.a.c,rfl,h.r.rd,h.a.rd,h.r.no,h.a.no⟩
structure RdJ (w:World) (x:RW Int):Prop where
 rd:RdI_R w.heap.size w x.A x.z
 cz:x.z.size<=x.c
 no:x.A=none->x.c=0
theorem RdJ.below {w w':World} {x:RW Int} (h:RdJ w x) (a:Below w.heap.size w w'):RdJ w' x:=⟨(h.rd.below a).mono a.size,h.cz,h.no⟩
structure RdP (w:World) (r:RP):Prop where
 e:RdT0 w r.e.A r.e.z
 o:RdN qae 2 w r.o
 k:RdW qav 3 w r.k
 kk:∀ i,i < r.k.z.size->RdKE w r.k.z[i]!
 m:RdW encW 1 w r.m
 mm:∀ i,i < r.m.z.size->RdJ w r.m.z[i]!
 fr:RdJ w r.fr
 d:RdW encW 1 w r.d
 dd:∀ i,i < r.d.z.size->RdW encR 2 w r.d.z[i]!
 it:RdW encIT 4 w r.it
 ss:RdW encSS 3 w r.ss
theorem RdP.below {w w':World} {r:RP} (h:RdP w r) (a:Below w.heap.size w w'):RdP w' r :=
 ⟨h.e.below a,h.o.below a,h.k.below a,fun i b=>(h.kk i b).below a,h.m.below a,fun i b=>(h.mm i b).below a,h.fr.below a,h.d.below a,fun i b=>(h.dd i b).below a,h.it.below a,h.ss.below a⟩
def fewM (m:Array (RW Int)):Bool:=decide (m.size<=20) && (List.range m.size).all fun i=>decide (m[i]!.z.size<=20)
theorem qgz {m:Array (RW Int)}:fewM m=true↔m.size<=20/\∀ i,i < m.size->m[i]!.z.size<=20:=by
 unfold fewM;rw [vav,vap,vcx]
 constructor
 .rintro ⟨h,g⟩;exact ⟨h,fun i a=>vdm (g i (vbv.2 a))⟩
 rintro ⟨h,g⟩;exact ⟨h,fun i a=>vah (g i (vbv.1 a))⟩
def fewKs (k:Array KE):Bool:=(List.range k.size).all fun i=>fewK k[i]!.kn
theorem fewKs_iff {k:Array KE}:fewKs k=true↔∀ i,i < k.size->fewK k[i]!.kn=true:=by
 unfold fewKs;rw [vcx];exact ⟨fun g i a=>g i (vbv.2 a),fun g i a=>g i (vbv.1 a)⟩
def fewD (d:Array (RW (Int×Int))):Bool:=(List.range d.size).all fun i=>decide (d[i]!.z.size<=100)
theorem fewD_iff {d:Array (RW (Int×Int))}:fewD d=true↔∀ i,i < d.size->d[i]!.z.size<=100:=by
 unfold fewD;rw [vcx];exact ⟨fun g i a=>vdm (g i (vbv.2 a)),fun g i a=>vah (g i (vbv.1 a))⟩
def fewR (r:RP):Bool:=fewT r.e.z && decide (r.o.z.size<=100) && decide (r.k.z.size<=20) && fewM r.m.z && decide (r.fr.z.size<=20) && decide (r.d.z.size<=20) && fewKs r.k.z && fewD r.d.z && decide (r.it.z.size<=60) && decide (r.ss.z.size<=60)
structure FewP (r:RP):Prop where
 e:fewT r.e.z=true
 o:r.o.z.size<=100
 k:r.k.z.size<=20
 m:fewM r.m.z=true
 fr:r.fr.z.size<=20
 d:r.d.z.size<=20
 kk:∀ i,i < r.k.z.size->fewK r.k.z[i]!.kn=true
 dd:∀ i,i < r.d.z.size->r.d.z[i]!.z.size<=100
 it:r.it.z.size<=60
 ss:r.ss.z.size<=60
theorem qwr {r:RP}:fewR r=true↔FewP r:=by
 unfold fewR;simp only [vav,vap,fewKs_iff,fewD_iff];exact ⟨fun ⟨⟨⟨⟨⟨⟨⟨⟨⟨a,b⟩,c⟩,d⟩,e⟩,f⟩,g⟩,h⟩,i⟩,j⟩=>⟨a,b,c,d,e,f,g,h,i,j⟩,fun ⟨a,b,c,d,e,f,g,h,i,j⟩=>⟨⟨⟨⟨⟨⟨⟨⟨⟨a,b⟩,c⟩,d⟩,e⟩,f⟩,g⟩,h⟩,i⟩,j⟩⟩
structure FewC (r:RP):Prop where
 es:r.e.z.size<=1000
 ee:∀ i,i < r.e.z.size->r.e.z[i]!.z.size<=1000/\r.e.z[i]!.pay.size<=1000
 o:r.o.z.size<=1000
 k:r.k.z.size<=20
 m:r.m.z.size<=20
 mm:∀ i,i < r.m.z.size->r.m.z[i]!.z.size<=1000
 fr:r.fr.z.size<=1000
 d:r.d.z.size<=20
 dd:∀ i,i < r.d.z.size->r.d.z[i]!.z.size<=1000
 kk:∀ i,i < r.k.z.size->r.k.z[i]!.r.z.size<=1000/\r.k.z[i]!.a.z.size<=1000
theorem FewP.c {r:RP} (h:FewP r):FewC r :=
 ⟨by have:=(qfz.1 h.e).1;omega,fun i a=>by have b:r.e.z[i]!.z.size<=100/\r.e.z[i]!.pay.size<=1000:=(qfz.1 h.e).2 i a;omega,by have:=h.o;omega,h.k,(qgz.1 h.m).1,fun i a=>by have:=(qgz.1 h.m).2 i a;omega,by have:=h.fr;omega,h.d,fun i a=>by have:=h.dd i a;omega,fun i a=>by have b:r.k.z[i]!.r.z.size<=100/\r.k.z[i]!.a.z.size<=100:=qpx.1 (h.kk i a);omega⟩
theorem RdP.tab {w:World} {r:RP} (h:RdP w r) (a:FewC r):RdT w r.e.A r.e.z:=⟨h.e.rd,fun i b=>(h.e.el i b).fewW (a.ee i b).1 (a.ee i b).2,a.es⟩
def anyN (n:Nat) (p:Nat->Bool):Bool:=(List.range n).any p
theorem qlq {n:Nat} {p:Nat->Bool} (j:Nat) (a:j < n) (h:p j=true):anyN n p=true:=by
 unfold anyN;rw [vca];exact ⟨j,vbv.2 a,h⟩
theorem qpy {n:Nat} {p:Nat->Bool} (h:∀ j,j < n->p j=false):anyN n p=false:=by
 unfold anyN;rw [vdu];intro j a;rw [h j (vbv.1 a)];exact vex
def IdxQ (p:Nat->Bool) (n:Nat) (e:Ending):Prop:=∃ r:Int,e=.returned (.int .i64 r)/\((0<=r/\anyN n p=true)\/(r = -1/\anyN n p=false))
theorem keIdx (p:Nat->Bool) (g:Nat) (lb:Array Value) (L:∀ l w,(callFunc g l).run prog w=.ok (.enter g l) w) (A:Option Addr) (c:Nat) (d:Array (KE)) (w:World) (h:RdK qav 3 w.heap.size w A d) (N:d.size<=1000000)
 (F:∀ i,i < d.size->∀ W,Below w.heap.size w W->Calls prog g (#[.agg (qav d[i]!).toArray] ++ lb) W fun e r=>e=.returned (.bool (p i))/\Below W.heap.size W r) :
 Calls prog 191 #[.slice A d.size c,.func (.func g) #[] lb] w fun e r=>IdxQ p d.size e/\Below w.heap.size w r:=by
 have H:=hI h;have G:=hI F;clear h F;go_in;go_wp2
 go_loopw [8] (fun i wr=>∃ k:Nat,i=.int .i64 k/\k<=d.size/\Hid (∀ j,j < k->p j=false)/\Hid (Below w.heap.size w wr)) (fun i _=>d.size - (intOf i).toNat)
 case atStart=>exact ⟨0,rfl,vaj _,hI (fun j t=>absurd t jo),hI (vag _ _)⟩
 case round =>
  obtain ⟨k,rfl,M,m,o⟩:=hrel;by_cases u:k < d.size
  .have O:(k:Int) < (d.size:Int):=by omega
   obtain ⟨b,K,rfl,J,f⟩:=(H.out.below o.out).at_ (i:=k) jo;have B:=f 0 jo;have C:=f 1 jo;have D:=f 2 jo;have s:=hI (fun W I=>G.out k u W I);obtain ⟨x,y⟩:∃ x,d[k]! = x:=⟨_,rfl⟩
   obtain ⟨q,v⟩:∃ q,p k=q:=⟨_,rfl⟩
   rw [y,v] at s;rw [y] at B C D;have z:=hI v;clear f y v;simp only [vak,qav,vac,vaf] at B C D s;cases q
   .go_wp2_with fail
    refine (s.out _ o.out).mono ?_;rintro e r ⟨rfl,a⟩;have n:=hI (qaa o.out a);clear a;go_wp2;go_roundw
    case rel =>
     refine ⟨k + 1,by go_num,by omega,hI (fun j t=>?_),n⟩;rcases val j k with h | h
     .exact m.out j h
     obtain rfl:j=k:=by omega
     exact z.out
    case measure=>simp [intOf];omega
   go_wp2_with fail;refine (s.out _ o.out).mono ?_;rintro e r ⟨rfl,a⟩;have n:=hI (qaa o.out a);clear a;go_wp2;go_ret;exact ⟨⟨k,rfl,Or.inl ⟨by omega,qlq k jo z.out⟩⟩,n.out⟩
  have E:decide ((k:Int) < (d.size:Int))=false:=by simp;omega
  go_wp2;go_ret;exact ⟨⟨-1,rfl,Or.inr ⟨rfl,qpy fun j t=>m.out j jo⟩⟩,o.out⟩
theorem keCont (p:Nat->Bool) (g:Nat) (lb:Array Value) (o:∀ a w,(callFunc g a).run prog w=.ok (.enter g a) w) (A:Option Addr) (c:Nat) (d:Array (KE)) (w:World) (h:RdK qav 3 w.heap.size w A d) (t:d.size<=1000000)
 (m:∀ i,i < d.size->∀ W,Below w.heap.size w W->Calls prog g (#[.agg (qav d[i]!).toArray] ++ lb) W fun e b=>e=.returned (.bool (p i))/\Below W.heap.size W b) :
 Calls prog 126 #[.slice A d.size c,.func (.func g) #[] lb] w fun e b=>e=.returned (.bool (anyN d.size p))/\Below w.heap.size w b:=by
 have n:=hI (keIdx p g lb o A c d w h t m);clear h m;go_in;go_wp2_with fail;refine n.out.mono ?_;rintro e b ⟨⟨r,rfl,s⟩,l⟩;have k:=hI l;clear l;rcases s with ⟨f,j⟩ | ⟨f,j⟩
 .have q:decide (0<=r)=true:=vah f
  go_wp2;go_ret;exact ⟨qad j.symm,k.out⟩
 subst f;go_wp2;go_ret;exact ⟨qad j.symm,k.out⟩
theorem rrIdx (p:Nat->Bool) (g:Nat) (lb:Array Value) (J:∀ l w,(callFunc g l).run prog w=.ok (.enter g l) w) (A:Option Addr) (c:Nat) (d:Array (RW (Int×Int))) (w:World) (h:RdK encW 1 w.heap.size w A d) (L:d.size<=1000000)
 (D:∀ i,i < d.size->∀ W,Below w.heap.size w W->Calls prog g (#[.slice d[i]!.A d[i]!.z.size d[i]!.c] ++ lb) W fun e r=>e=.returned (.bool (p i))/\Below W.heap.size W r) :
 Calls prog 192 #[.slice A d.size c,.func (.func g) #[] lb] w fun e r=>IdxQ p d.size e/\Below w.heap.size w r:=by
 have F:=hI h;have E:=hI D;clear h D;go_in;go_wp2
 go_loopw [8] (fun i wr=>∃ k:Nat,i=.int .i64 k/\k<=d.size/\Hid (∀ j,j < k->p j=false)/\Hid (Below w.heap.size w wr)) (fun i _=>d.size - (intOf i).toNat)
 case atStart=>exact ⟨0,rfl,vaj _,hI (fun j t=>absurd t jo),hI (vag _ _)⟩
 case round =>
  obtain ⟨k,rfl,K,m,o⟩:=hrel;by_cases u:k < d.size
  .have M:(k:Int) < (d.size:Int):=by omega
   obtain ⟨b,I,rfl,H,f⟩:=(F.out.below o.out).at_ (i:=k) jo;have B:=f 0 jo;have s:=hI (fun W G=>E.out k u W G);obtain ⟨x,y⟩:∃ x,d[k]! = x:=⟨_,rfl⟩
   obtain ⟨q,v⟩:∃ q,p k=q:=⟨_,rfl⟩
   rw [y,v] at s;rw [y] at B;have z:=hI v;clear f y v;simp only [vak,vcq,encW,RW.v,vac] at B;cases q
   .go_wp2_with fail
    refine (s.out _ o.out).mono ?_;rintro e r ⟨rfl,a⟩;have n:=hI (qaa o.out a);clear a;go_wp2;go_roundw
    case rel =>
     refine ⟨k + 1,by go_num,by omega,hI (fun j t=>?_),n⟩;rcases val j k with h | h
     .exact m.out j h
     obtain rfl:j=k:=by omega
     exact z.out
    case measure=>simp [intOf];omega
   go_wp2_with fail;refine (s.out _ o.out).mono ?_;rintro e r ⟨rfl,a⟩;have n:=hI (qaa o.out a);clear a;go_wp2;go_ret;exact ⟨⟨k,rfl,Or.inl ⟨by omega,qlq k jo z.out⟩⟩,n.out⟩
  have C:decide ((k:Int) < (d.size:Int))=false:=by simp;omega
  go_wp2;go_ret;exact ⟨⟨-1,rfl,Or.inr ⟨rfl,qpy fun j t=>m.out j jo⟩⟩,o.out⟩
theorem rrCont (p:Nat->Bool) (g:Nat) (lb:Array Value) (o:∀ a w,(callFunc g a).run prog w=.ok (.enter g a) w) (A:Option Addr) (c:Nat) (d:Array (RW (Int×Int))) (w:World) (h:RdK encW 1 w.heap.size w A d) (t:d.size<=1000000)
 (m:∀ i,i < d.size->∀ W,Below w.heap.size w W->Calls prog g (#[.slice d[i]!.A d[i]!.z.size d[i]!.c] ++ lb) W fun e b=>e=.returned (.bool (p i))/\Below W.heap.size W b) :
 Calls prog 129 #[.slice A d.size c,.func (.func g) #[] lb] w fun e b=>e=.returned (.bool (anyN d.size p))/\Below w.heap.size w b:=by
 have n:=hI (rrIdx p g lb o A c d w h t m);clear h m;go_in;go_wp2_with fail;refine n.out.mono ?_;rintro e b ⟨⟨r,rfl,s⟩,l⟩;have k:=hI l;clear l;rcases s with ⟨f,j⟩ | ⟨f,j⟩
 .have q:decide (0<=r)=true:=vah f
  go_wp2;go_ret;exact ⟨qad j.symm,k.out⟩
 subst f;go_wp2;go_ret;exact ⟨qad j.symm,k.out⟩
def allN (n m:Nat) (p:Nat->Bool):Bool:=decide (n=m) && (List.range n).all p
theorem qfk {n m:Nat} {p:Nat->Bool} (h:n=m) (g:∀ j,j < n->p j=true):allN n m p=true:=by
 unfold allN;rw [vav,vap,vcx];exact ⟨h,fun j a=>g j (vbv.1 a)⟩
theorem quq {n m:Nat} {p:Nat->Bool} (j:Nat) (b:j < n) (h:p j=false):allN n m p=false:=by
 rw [vbi];intro a;unfold allN at a;rw [vav,vcx] at a;rw [a.2 j (vbv.2 b)] at h;cases h
theorem qur {n m:Nat} {p:Nat->Bool} (h:¬ n=m):allN n m p=false:=by
 unfold allN;rw [vab h];rfl
theorem rSame18 (p:Nat->Bool) (E F:Option Addr) (c1 c2:Nat) (b d2:Array (RW Int)) (w:World) (N:RdK encW 1 w.heap.size w E b) (O:RdK encW 1 w.heap.size w F d2) (X:b.size<=1000000)
 (R:∀ i,i < b.size->i < d2.size->∀ W,Below w.heap.size w W->Calls prog 24 #[.slice b[i]!.A b[i]!.z.size b[i]!.c,.slice d2[i]!.A d2[i]!.z.size d2[i]!.c] W fun e o=>e=.returned (.bool (p i))/\Below W.heap.size W o) :
 Calls prog 45 #[.slice E b.size c1,.slice F d2.size c2] w fun e o=>e=.returned (.bool (allN b.size d2.size p))/\Below w.heap.size w o:=by
 have r:=hI N;have s:=hI O;have T:=hI R;clear N O R;by_cases l:b.size=d2.size
 .have t:((b.size:Int) != (d2.size:Int))=false:=by simp [l]
  have U:=hI l;have V:b.size<=d2.size:=by omega
  clear l;go_in;go_wp2
  go_loopw [5] (fun i wr=>∃ k:Nat,i=.int .i64 k/\k<=b.size/\Hid (∀ j,j < k->p j=true)/\Hid (Below w.heap.size w wr)) (fun i _=>b.size - (intOf i).toNat)
  case atStart=>exact ⟨0,rfl,vaj _,hI (fun j P=>absurd P jo),hI (vag _ _)⟩
  case round =>
   obtain ⟨k,rfl,hk,c,d⟩:=hrel;by_cases g:k < b.size
   .have kz:(k:Int) < (b.size:Int):=by omega
    have Y:(k:Int) < (d2.size:Int):=by omega
    obtain ⟨J,Z,rfl,u,L⟩:=(r.out.below d.out).at_ (i:=k) jo;obtain ⟨K,o2,rfl,v,M⟩:=(s.out.below d.out).at_ (i:=k) jo;have m:=L 0 jo;have n:=M 0 jo;have G:=hI (fun W t=>T.out k g jo W t);obtain ⟨x,C⟩:∃ x,b[k]! = x:=⟨_,rfl⟩
    obtain ⟨y,D⟩:∃ y,d2[k]! = y:=⟨_,rfl⟩
    obtain ⟨q,z⟩:∃ q,p k=q:=⟨_,rfl⟩
    rw [C,D,z] at G;rw [C] at m;rw [D] at n;have H:=hI z;clear L M C D z;simp only [vak,vcq,encW,RW.v,vac] at m n;have A:J < wr.heap.size:=vad u d.out.size;have B:K < wr.heap.size:=vad v d.out.size;have r0:=fun p:ExtW wr=>p.cell (a:=⟨J,Z + k,none⟩) A m
    have s0:=fun p:ExtW wr=>p.cell (a:=⟨K,o2 + k,none⟩) B n
    clear m n;cases q
    all_goals
     go_wp2_with fail;refine wprX ?_
     repeat (first | go_big_quiet_step ((go_at_call 24;exact Calls.ext_of (G.out _ (qaa d.out (ExtW.h _))))) | quiet_step (fail))
     refine wpQn fun o f=>?_
     have I:=hI (qaa d.out f);clear f r0 s0;go_wp2
     first
      | (go_roundw
         case rel =>
          refine ⟨k + 1,by go_num,by omega,hI (fun j P=>?_),I⟩;rcases val j k with h | h
          .exact c.out j h
          obtain rfl:j=k:=by omega
          exact H.out
         case measure=>simp [intOf];omega)
      | (go_ret
         exact ⟨qad (quq k g H.out).symm,I.out⟩)
   have Q:decide ((k:Int) < (b.size:Int))=false:=by simp;omega
   go_wp2;go_ret;exact ⟨qad (qfk U.out fun i hi=>c.out i jo).symm,d.out⟩
 have t:((b.size:Int) != (d2.size:Int))=true:=by simp;omega
 have S:Hid (allN b.size d2.size p=false):=qur l;clear l;go_in;go_wp2;go_ret;exact ⟨qad S.out.symm,vag _ _⟩
theorem rSameDone (p:Nat->Bool) (E F:Option Addr) (c1 c2:Nat) (b d2:Array (RW (Int×Int))) (w:World) (N:RdK encW 1 w.heap.size w E b) (O:RdK encW 1 w.heap.size w F d2) (X:b.size<=1000000)
 (R:∀ i,i < b.size->i < d2.size->∀ W,Below w.heap.size w W->Calls prog 114 #[.slice b[i]!.A b[i]!.z.size b[i]!.c,.slice d2[i]!.A d2[i]!.z.size d2[i]!.c] W fun e o=>e=.returned (.bool (p i))/\Below W.heap.size W o) :
 Calls prog 46 #[.slice E b.size c1,.slice F d2.size c2] w fun e o=>e=.returned (.bool (allN b.size d2.size p))/\Below w.heap.size w o:=by
 have r:=hI N;have s:=hI O;have T:=hI R;clear N O R;by_cases l:b.size=d2.size
 .have t:((b.size:Int) != (d2.size:Int))=false:=by simp [l]
  have U:=hI l;have V:b.size<=d2.size:=by omega
  clear l;go_in;go_wp2
  go_loopw [5] (fun i wr=>∃ k:Nat,i=.int .i64 k/\k<=b.size/\Hid (∀ j,j < k->p j=true)/\Hid (Below w.heap.size w wr)) (fun i _=>b.size - (intOf i).toNat)
  case atStart=>exact ⟨0,rfl,vaj _,hI (fun j P=>absurd P jo),hI (vag _ _)⟩
  case round =>
   obtain ⟨k,rfl,hk,c,d⟩:=hrel;by_cases g:k < b.size
   .have kz:(k:Int) < (b.size:Int):=by omega
    have Y:(k:Int) < (d2.size:Int):=by omega
    obtain ⟨J,Z,rfl,u,L⟩:=(r.out.below d.out).at_ (i:=k) jo;obtain ⟨K,o2,rfl,v,M⟩:=(s.out.below d.out).at_ (i:=k) jo;have m:=L 0 jo;have n:=M 0 jo;have G:=hI (fun W t=>T.out k g jo W t);obtain ⟨x,C⟩:∃ x,b[k]! = x:=⟨_,rfl⟩
    obtain ⟨y,D⟩:∃ y,d2[k]! = y:=⟨_,rfl⟩
    obtain ⟨q,z⟩:∃ q,p k=q:=⟨_,rfl⟩
    rw [C,D,z] at G;rw [C] at m;rw [D] at n;have H:=hI z;clear L M C D z;simp only [vak,vcq,encW,RW.v,vac] at m n;have A:J < wr.heap.size:=vad u d.out.size;have B:K < wr.heap.size:=vad v d.out.size;have r0:=fun p:ExtW wr=>p.cell (a:=⟨J,Z + k,none⟩) A m
    have s0:=fun p:ExtW wr=>p.cell (a:=⟨K,o2 + k,none⟩) B n
    clear m n;cases q
    all_goals
     go_wp2_with fail;refine wprX ?_
     repeat (first | go_big_quiet_step ((go_at_call 114;exact Calls.ext_of (G.out _ (qaa d.out (ExtW.h _))))) | quiet_step (fail))
     refine wpQn fun o f=>?_
     have I:=hI (qaa d.out f);clear f r0 s0;go_wp2
     first
      | (go_roundw
         case rel =>
          refine ⟨k + 1,by go_num,by omega,hI (fun j P=>?_),I⟩;rcases val j k with h | h
          .exact c.out j h
          obtain rfl:j=k:=by omega
          exact H.out
         case measure=>simp [intOf];omega)
      | (go_ret
         exact ⟨qad (quq k g H.out).symm,I.out⟩)
   have Q:decide ((k:Int) < (b.size:Int))=false:=by simp;omega
   go_wp2;go_ret;exact ⟨qad (qfk U.out fun i hi=>c.out i jo).symm,d.out⟩
 have t:((b.size:Int) != (d2.size:Int))=true:=by simp;omega
 have S:Hid (allN b.size d2.size p=false):=qur l;clear l;go_in;go_wp2;go_ret;exact ⟨qad S.out.symm,vag _ _⟩
theorem qzn (p:Nat->Bool) (P Q:Option Addr) (c1 c2:Nat) (b d2:Array (KE)) (w:World) (T:RdK qav 3 w.heap.size w P b) (U:RdK qav 3 w.heap.size w Q d2) (a1:b.size<=1000000)
 (Y:∀ i,i < b.size->i < d2.size->∀ W,Below w.heap.size w W->Calls prog 113 #[.agg (qav b[i]!).toArray,.agg (qav d2[i]!).toArray] W fun e D=>e=.returned (.bool (p i))/\Below W.heap.size W D) :
 Calls prog 44 #[.slice P b.size c1,.slice Q d2.size c2] w fun e D=>e=.returned (.bool (allN b.size d2.size p))/\Below w.heap.size w D:=by
 have F:=hI T;have G:=hI U;have HP:=hI Y;clear T U Y;by_cases n:b.size=d2.size
 .have H:((b.size:Int) != (d2.size:Int))=false:=by simp [n]
  have HS:=hI n;have a0:b.size<=d2.size:=by omega
  clear n;go_in;go_wp2
  go_loopw [5] (fun i wr=>∃ k:Nat,i=.int .i64 k/\k<=b.size/\Hid (∀ j,j < k->p j=true)/\Hid (Below w.heap.size w wr)) (fun i _=>b.size - (intOf i).toNat)
  case atStart=>exact ⟨0,rfl,vaj _,hI (fun j V=>absurd V jo),hI (vag _ _)⟩
  case round =>
   obtain ⟨k,rfl,hk,c,d⟩:=hrel;by_cases m:k < b.size
   .have kz:(k:Int) < (b.size:Int):=by omega
    have a2:(k:Int) < (d2.size:Int):=by omega
    obtain ⟨o,N,rfl,I,v⟩:=(F.out.below d.out).at_ (i:=k) jo;obtain ⟨r,O,rfl,J,z⟩:=(G.out.below d.out).at_ (i:=k) jo;have s:=v 0 jo;have t:=v 1 jo;have u:=v 2 jo;have A:=z 0 jo;have B:=z 1 jo;have C:=z 2 jo;have E:=hI (fun W H=>HP.out k m jo W H);obtain ⟨x,L⟩:∃ x,b[k]! = x:=⟨_,rfl⟩
    obtain ⟨y,M⟩:∃ y,d2[k]! = y:=⟨_,rfl⟩
    obtain ⟨q,K⟩:∃ q,p k=q:=⟨_,rfl⟩
    rw [L,M,K] at E;rw [L] at s t u;rw [M] at A B C;have R:=hI K;clear v z L M K;simp only [vak,qav,vac,vaf] at s t u A B C E;have f:o < wr.heap.size:=vad I d.out.size;have g:r < wr.heap.size:=vad J d.out.size;have r0:=fun p:ExtW wr=>p.cell (a:=⟨o,N + k * 3,none⟩) f s
    have r1:=fun p:ExtW wr=>p.cell (a:=⟨o,N + k * 3 + 1,none⟩) f t
    have r2:=fun p:ExtW wr=>p.cell (a:=⟨o,N + k * 3 + 2,none⟩) f u
    have s0:=fun p:ExtW wr=>p.cell (a:=⟨r,O + k * 3,none⟩) g A
    have s1:=fun p:ExtW wr=>p.cell (a:=⟨r,O + k * 3 + 1,none⟩) g B
    have s2:=fun p:ExtW wr=>p.cell (a:=⟨r,O + k * 3 + 2,none⟩) g C
    clear s t u A B C;cases q
    all_goals
     go_wp2_with fail;refine wprX ?_
     repeat (first | go_big_quiet_step ((go_at_call 113;exact Calls.ext_of (E.out _ (qaa d.out (ExtW.h _))))) | quiet_step (fail))
     refine wpQn fun D l=>?_
     have S:=hI (qaa d.out l);clear l r0 r1 r2 s0 s1 s2;go_wp2
     first
      | (go_roundw
         case rel =>
          refine ⟨k + 1,by go_num,by omega,hI (fun j V=>?_),S⟩;rcases val j k with h | h
          .exact c.out j h
          obtain rfl:j=k:=by omega
          exact R.out
         case measure=>simp [intOf];omega)
      | (go_ret
         exact ⟨qad (quq k m R.out).symm,S.out⟩)
   have X:decide ((k:Int) < (b.size:Int))=false:=by simp;omega
   go_wp2;go_ret;exact ⟨qad (qfk HS.out fun i hi=>c.out i jo).symm,d.out⟩
 have H:((b.size:Int) != (d2.size:Int))=true:=by simp;omega
 have Z:Hid (allN b.size d2.size p=false):=qur n;clear n;go_in;go_wp2;go_ret;exact ⟨qad Z.out.symm,vag _ _⟩
def qey (m:Array (RW Int)) (n:Int):Bool:=decide (3<=n/\n<=9) && decide ((m.size:Int)=n) && (List.range m.size).all fun i=>decide (qas m[i]!.z n=0)
def qea (m:Array (RW Int)) (n:Int):Int:=if qey m n=true then 0 else 2
theorem qjv {m:Array (RW Int)} {n:Int}:qey m n=true↔(3<=n/\n<=9)/\(m.size:Int)=n/\∀ i,i < m.size->qas m[i]!.z n=0:=by
 unfold qey;rw [vav,vav,vap,vap,vcx]
 constructor
 .rintro ⟨⟨h,a⟩,g⟩;exact ⟨h,a,fun i b=>vdm (g i (vbv.2 b))⟩
 rintro ⟨h,a,g⟩;exact ⟨⟨h,a⟩,fun i b=>vah (g i (vbv.1 b))⟩
theorem qrx {m:Array (RW Int)} {n:Int} (h:3<=n/\n<=9) (a:(m.size:Int)=n) (g:∀ i,i < m.size->qas m[i]!.z n=0):qea m n=0:=by
 unfold qea;rw [vam (qjv.2 ⟨h,a,g⟩)]
theorem qws {m:Array (RW Int)} {n:Int} (i:Nat) (hi:i < m.size) (h:qas m[i]!.z n≠0):qea m n=2:=by
 unfold qea;rw [vao fun a=>h ((qjv.1 a).2.2 i hi)]
theorem qry {m:Array (RW Int)} {n:Int} (h:¬ ((3<=n/\n<=9)/\(m.size:Int)=n)):qea m n=2:=by
 unfold qea;rw [vao fun a=>h ⟨(qjv.1 a).1,(qjv.1 a).2.1⟩]
theorem qzo (m:Array (RW Int)) (n:Int):(qea m n != 0) = !qey m n:=by unfold qea;cases qey m n <;> rfl
theorem qot (d:Array Int) (n:Int):qas d n=0\/qas d n=2:=by unfold qas;split <;> simp
theorem qzp (n:Int):(qgj n == 0) = !decide (3<=n/\n<=9):=by
 unfold qgj;by_cases h:n < 3\/9 < n
 .rw [vam h,vab jo];rfl
 rw [vao h,vah jo];simp;omega
theorem qha (A:Option Addr) (c:Nat) (m:Array (RW Int)) (n:Int) (w:World) (h:RdK encW 1 w.heap.size w A m) (G:∀ i,i < m.size->RdJ w m[i]!) (Z:m.size<=1000000) (L:∀ i,i < m.size->m[i]!.z.size<=1000000) :
 Calls prog 77 #[.slice A m.size c,.int .i64 n] w fun e s=>e=.returned (.int .i64 (qea m n))/\Below w.heap.size w s:=by
 have Q:=hI h;have O:Hid (∀ i,i < m.size->∀ W,Below w.heap.size w W->Calls prog 79 #[.slice m[i]!.A m[i]!.z.size m[i]!.c,.int .i64 n] W fun e s=>e=.returned (.int .i64 (qas m[i]!.z n))/\Below W.heap.size W s):=fun i y W v=>(qfs m[i]!.A m[i]!.c m[i]!.z n _ W ((G i y).below v).rd (by have:=L i y;omega)).mono fun e s ⟨S,T⟩=>⟨S,T.mono (vaa _)⟩
 clear h G L;have z:=qzp n;by_cases a:(3<=n/\n<=9)/\(m.size:Int)=n
 rotate_left
 .have C:=hI (qry a)
  have D:=hI a;go_in;by_cases l:3<=n/\n<=9
  .rw [vah l] at z
   have V:((m.size:Int) != n)=true:=by simp;exact fun e=>a ⟨l,e⟩
   clear a l;go_wp2_with (go_at_call 160;refine (qhj _ _).mono ?_;rintro _ _ ⟨rfl,rfl⟩);go_ret;exact ⟨qag C.out.symm,vag _ _⟩
  rw [vab l] at z;clear a l;go_wp2_with (go_at_call 160;refine (qhj _ _).mono ?_;rintro _ _ ⟨rfl,rfl⟩);go_ret;exact ⟨qag C.out.symm,vag _ _⟩
 have J:=a.2;have D:=hI a.1;have X:((m.size:Int) != n)=false:=by simp [J]
 rw [vah a.1] at z;clear a;have N:=hI J;go_in;go_wp2_with (go_at_call 160;refine (qhj _ _).mono ?_;rintro _ _ ⟨rfl,rfl⟩)
 go_loopw [19] (fun i wr=>∃ k:Nat,i=.int .i64 k/\k<=m.size/\Hid (∀ j,j < k->qas m[j]!.z n=0)/\Hid (Below w.heap.size w wr)) (fun i _=>m.size - (intOf i).toNat)
 case atStart=>exact ⟨0,rfl,vaj _,hI (fun j H=>absurd H jo),hI (vag _ _)⟩
 case round =>
  obtain ⟨k,rfl,Y,d,t⟩:=hrel;by_cases p:k < m.size
  .have kz:(k:Int) < (m.size:Int):=by omega
   have kn:(k:Int) < n:=by omega
   obtain ⟨b,U,rfl,R,f⟩:=(Q.out.below t.out).at_ (i:=k) jo;have F:=f 0 jo;have u:=hI (fun W v=>O.out k p W v);have g:=hI (fun e:qas m[k]!.z n≠0=>qws (n:=n) k p e);have r:=qot m[k]!.z n;obtain ⟨x,K⟩:∃ x,m[k]! = x:=⟨_,rfl⟩
   obtain ⟨q,B⟩:∃ q,qas m[k]!.z n=q:=⟨_,rfl⟩
   rw [B] at u g r;rw [K] at u F;have P:=hI B;clear f K B;simp only [vak,vcq,encW,RW.v,vac] at F;rcases r with rfl | rfl
   all_goals
    go_wp2_with fail;refine (u.out _ t.out).mono ?_;rintro e s ⟨rfl,o⟩;have E:=hI (qaa t.out o);clear o;go_wp2
    first
     | (go_roundw
        case rel =>
         refine ⟨k + 1,by go_num,by omega,hI (fun j H=>?_),E⟩;rcases val j k with h | h
         .exact d.out j h
         obtain rfl:j=k:=by omega
         exact P.out
        case measure=>simp [intOf];omega)
     | (go_ret
        exact ⟨qag (g.out jd).symm,E.out⟩)
  have I:decide ((k:Int) < (m.size:Int))=false:=by simp;omega
  have M:Hid (qea m n=0):=qrx D.out N.out fun i y=>d.out i jo
  go_wp2;go_ret;exact ⟨qag M.out.symm,t.out⟩
theorem qpz (A:Option Addr) (c:Nat) (m:Array (RW Int)) (n:Int) (w:World) (h:RdK encW 1 w.heap.size w A m) (H:∀ i,i < m.size->RdJ w m[i]!) (hs:m.size<=1000000) (M:∀ i,i < m.size->m[i]!.z.size<=1000000) :
 Calls prog 100 #[.slice A m.size c,.int .i64 n] w fun e s=>e=.returned (.int .i64 (qea m n))/\Below w.heap.size w s:=by
 have S:=hI h;have Q:Hid (∀ i,i < m.size->∀ W,Below w.heap.size w W->Calls prog 101 #[.slice m[i]!.A m[i]!.z.size m[i]!.c,.int .i64 n] W fun e s=>e=.returned (.int .i64 (qas m[i]!.z n))/\Below W.heap.size W s):=fun i D W C=>(qel m[i]!.A m[i]!.c m[i]!.z n _ W ((H i D).below C).rd (by have:=M i D;omega)).mono fun e s ⟨U,V⟩=>⟨U,V ▸ vag _ _⟩
 clear h H M;by_cases a:(3<=n/\n<=9)/\(m.size:Int)=n
 rotate_left
 .have y:=hI (qry a)
  go_in;by_cases l:n < 3
  .have z:decide (n < 3)=true:=vah l
   clear a l;go_wp2;go_ret;exact ⟨qag y.out.symm,vag _ _⟩
  have z:decide (n < 3)=false:=vab l;by_cases u:9 < n
  .have B:decide (9 < n)=true:=vah u
   clear a l u;go_wp2;go_ret;exact ⟨qag y.out.symm,vag _ _⟩
  have B:decide (9 < n)=false:=vab u;have Y:((m.size:Int) != n)=true:=by simp;exact fun e=>a ⟨by omega,e⟩
  clear a l u;go_wp2;go_ret;exact ⟨qag y.out.symm,vag _ _⟩
 have K:=a.2;have O:=hI a.1;have Z:decide (n < 3)=false:=by simp;omega
 have h3:decide (9 < n)=false:=by simp;omega
 have h2:((m.size:Int) != n)=false:=by simp [K]
 clear a;have P:=hI K;go_in;go_wp2
 go_loopw [5] (fun i wr=>∃ k:Nat,i=.int .i64 k/\k<=m.size/\Hid (∀ j,j < k->qas m[j]!.z n=0)/\Hid (Below w.heap.size w wr)) (fun i _=>m.size - (intOf i).toNat)
 case atStart=>exact ⟨0,rfl,vaj _,hI (fun j I=>absurd I jo),hI (vag _ _)⟩
 case round =>
  obtain ⟨k,rfl,hk,d,t⟩:=hrel;by_cases p:k < m.size
  .have kz:(k:Int) < (m.size:Int):=by omega
   have kn:(k:Int) < n:=by omega
   obtain ⟨b,X,rfl,T,f⟩:=(S.out.below t.out).at_ (i:=k) jo;have G:=f 0 jo;have v:=hI (fun W C=>Q.out k p W C);have g:=hI (fun e:qas m[k]!.z n≠0=>qws (n:=n) k p e);have r:=qot m[k]!.z n;obtain ⟨x,L⟩:∃ x,m[k]! = x:=⟨_,rfl⟩
   obtain ⟨q,E⟩:∃ q,qas m[k]!.z n=q:=⟨_,rfl⟩
   rw [E] at v g r;rw [L] at v G;have R:=hI E;clear f L E;simp only [vak,vcq,encW,RW.v,vac] at G;rcases r with rfl | rfl
   all_goals
    go_wp2_with fail;refine (v.out _ t.out).mono ?_;rintro e s ⟨rfl,o⟩;have F:=hI (qaa t.out o);clear o;go_wp2
    first
     | (go_roundw
        case rel =>
         refine ⟨k + 1,by go_num,by omega,hI (fun j I=>?_),F⟩;rcases val j k with h | h
         .exact d.out j h
         obtain rfl:j=k:=by omega
         exact R.out
        case measure=>simp [intOf];omega)
     | (go_ret
        exact ⟨qag (g.out jd).symm,F.out⟩)
  have J:decide ((k:Int) < n)=false:=by simp;omega
  have N:Hid (qea m n=0):=qrx O.out P.out fun i D=>d.out i jo
  go_wp2;go_ret;exact ⟨qag N.out.symm,t.out⟩
theorem few18_any (A:Option Addr) (c:Nat) (m:Array (RW Int)) (w:World) (h:RdK encW 1 w.heap.size w A m) :
 Calls prog 21 #[.slice A m.size c] w fun e E=>e=.returned (.bool (fewM m))/\Below w.heap.size w E:=by
 have z:=hI h;clear h;by_cases o:m.size<=20
 .have p:decide ((20:Int) < (m.size:Int))=false:=vab jo
  go_in;go_wp2
  go_loopw [3] (fun i wr=>∃ k:Nat,i=.int .i64 k/\k<=m.size/\Hid (∀ j,j < k->m[j]!.z.size<=20)/\Hid (wr=w)) (fun i _=>m.size - (intOf i).toNat)
  case atStart=>exact ⟨0,rfl,vaj _,hI (fun j v=>absurd v jo),hI rfl⟩
  case round =>
   obtain ⟨k,rfl,G,a,q⟩:=hrel;obtain rfl:=q.out;by_cases n:k < m.size
   .have H:(k:Int) < (m.size:Int):=by omega
    obtain ⟨b,D,rfl,C,f⟩:=z.out.at_ (i:=k) jo;have u:=f 0 jo;obtain ⟨x,r⟩:∃ x,m[k]! = x:=⟨_,rfl⟩
    rw [r] at u;have t:=hI r;clear f r;simp only [vak,vcq,encW,RW.v,vac] at u;by_cases g:x.z.size<=20
    .have s:decide ((20:Int) < (x.z.size:Int))=false:=vab jo
     have B:=hI g;clear g;go_wp2;go_roundw
     case rel =>
      refine ⟨k + 1,by go_num,by omega,hI (fun j v=>?_),by first | exact hI trivial | exact hI rfl⟩;rcases val j k with h | h
      .exact a.out j h
      obtain rfl:j=k:=by omega
      rw [t.out];exact B.out
     case measure=>simp [intOf];omega
    have s:decide ((20:Int) < (x.z.size:Int))=true:=vah jo;have d:Hid (fewM m=false):=by
     show _=_;rw [vbi];intro l
     have:=(qgz.1 l).2 k n
     rw [t.out] at this;exact g this
    clear g;go_wp2;go_ret;exact ⟨qad d.out.symm,vag _ _⟩
   have y:decide ((k:Int) < (m.size:Int))=false:=by simp;omega
   have d:Hid (fewM m=true):=qgz.2 ⟨o,fun i F=>a.out i jo⟩;go_wp2;go_ret;exact ⟨qad d.out.symm,vag _ _⟩
 have p:decide ((20:Int) < (m.size:Int))=true:=vah jo;have d:Hid (fewM m=false):=by
  show _=_;rw [vbi];intro l;exact o (qgz.1 l).1
 clear o;go_in;go_wp2;go_ret;exact ⟨qad d.out.symm,vag _ _⟩
def qfd (n f:Int):Prop:=3<=n/\n<=9/\1<=f/\2 * f<=n - 1
instance (n f:Int):Decidable (qfd n f):=by unfold qfd;infer_instance
def qmq (n f:Int):Int:=if qfd n f then 0 else 2
theorem qou (n f:Int):(qmq n f != 0) = !decide (qfd n f):=by
 unfold qmq;by_cases h:qfd n f <;> simp [h]
theorem qus (n f:Int) (w:World):Calls prog 119 #[.int .i64 n,.int .i64 f] w fun e o=>e=.returned (.int .i64 (qmq n f))/\o=w:=by
 have i:3<=n->Int.tdiv (n - 1) 2=(n - 1) / 2:=fun h=>Int.tdiv_eq_ediv_of_nonneg jo
 by_cases c:3<=n/\n<=9
 .have k:=qsl c.1 c.2
  have p:=c.1;have q:=c.2;have l:=i c.1;by_cases g:qfd n f
  .have d:Hid (qmq n f=0):=by show _=_;unfold qmq;rw [vam g]
   obtain ⟨_,_,a,b⟩:=g;have j:decide (f < 1)=false:=by simp;omega
   have m:decide ((n - 1) / 2 < f)=false:=by simp;omega
   clear a b c i;go_in;go_wp2_with (go_at_call 189;refine (qiq _ _).mono ?_;rintro _ _ ⟨rfl,rfl⟩)
   all_goals first
    | (go_ret;exact ⟨qag d.out.symm,rfl⟩)
    | (exfalso;omega)
  have d:Hid (qmq n f=2):=by show _=_;unfold qmq;rw [vao g]
  by_cases a:f < 1
  .have j:decide (f < 1)=true:=vah a
   clear a c i g;go_in;go_wp2_with (go_at_call 189;refine (qiq _ _).mono ?_;rintro _ _ ⟨rfl,rfl⟩)
   all_goals (go_ret;exact ⟨qag d.out.symm,rfl⟩)
  have j:decide (f < 1)=false:=vab a;have m:decide ((n - 1) / 2 < f)=true:=by
   unfold qfd at g;simp only [vap];omega
  clear a c i g;go_in;go_wp2_with (go_at_call 189;refine (qiq _ _).mono ?_;rintro _ _ ⟨rfl,rfl⟩)
  all_goals first
   | (go_ret;exact ⟨qag d.out.symm,rfl⟩)
   | (exfalso;omega)
 have k:=qxo (n:=n) jo;have d:Hid (qmq n f=2):=by show _=_;unfold qmq;rw [vao];rintro ⟨a,b,_⟩;exact c ⟨a,b⟩
 clear c i;go_in;go_wp2_with (go_at_call 189;refine (qiq _ _).mono ?_;rintro _ _ ⟨rfl,rfl⟩)
 all_goals (go_ret;exact ⟨qag d.out.symm,rfl⟩)
theorem qrz (n a:Int) (w:World):Calls prog 120 #[.int .i64 n,.int .i64 a] w fun e b=>e=.returned (.bool (withB n a))/\b=w:=by
 go_in;go_wp2
 all_goals
  go_ret;exact ⟨qff (by simp <;> omega),rfl⟩
def qko (r:RP):Bool:=decide (qfd r.n r.f) && decide (1<=r.self/\r.self<=r.n) && decide (0<=r.seq/\r.seq<=99999/\0<=r.ticks/\r.ticks<=1000000/\0<=r.count/\r.count<=1000000) && clkB r.clock r.floor r.o.z
def farB (r:RP) (i:Nat):Bool:=decide (r.n < qat r.e.z[i]!.id)
def qzq (r:RP):Bool:=chkT r.e.z && !anyN r.e.z.size (farB r)
def qov (r:RP):Bool:=decide ((r.k.z.size:Int)=r.n) && !anyN r.k.z.size (fun i=>!chkB r.k.z[i]!.kn) && qey r.m.z r.n && decide (qas r.fr.z r.n=0)
def qiy (d:Array (Int×Int)):Bool:=(qam d != 0) || (decide (0 < d.size) && decide (99999 < d[d.size - 1]!.2))
def lastB (t id:Int):Bool:=decide ((t=0/\id=0)\/((10<=id/\id<=999999/\id % 10≠0)/\1<=t/\t<=1000000))
def finB (r:RP):Bool:=decide ((r.d.z.size:Int)=r.n) && !anyN r.d.z.size (fun i=>qiy r.d.z[i]!.z) && lastB r.lt r.lid
def chkR (r:RP):Bool:=qko r && qzq r && qov r && finB r
def repE (r:RP):Int:=if chkR r=true then 0 else 2
theorem qzr (r:RP):(repE r == 0)=chkR r:=by unfold repE;cases chkR r <;> rfl
theorem qzs (a floor:Int) (d:Array (Int×Int)):(clkE a floor d == 0)=clkB a floor d:=by unfold clkE;cases clkB a floor d <;> rfl
theorem qzt (r:RP) (w:World) (h:RdP w r) (c:r.o.z.size<=1000000) :
 Calls prog 49 #[.agg (encP r).toArray] w fun e j=>e=.returned (.bool (qko r))/\Below w.heap.size w j:=by
 have d:=hI (fun W (b:Below w.heap.size w W)=>clk_any r.clock r.floor r.o.A r.o.c r.o.z W (h.o.below b).rd c);have a:=hI (fun T=>bel1 w (.cells (encP r).toArray T));have i:=qou r.n r.f;have g:=qzs r.clock r.floor r.o.z;clear h c;simp only [encP] at a |-
 go_in
 go_wp2_with (first
  | (go_at_call 119;refine (qus _ _ _).mono ?_;rintro _ _ ⟨rfl,rfl⟩)
  | (go_at_call 120;refine (qrz _ _ _).mono ?_;rintro _ _ ⟨rfl,rfl⟩)
  | (go_at_call 121;refine (d.out _ (a.out _)).mono ?_;rintro _ k ⟨rfl,b⟩;have f:=hI (qaa (a.out _) b);clear b))
 all_goals
  go_ret;refine ⟨qad ?_,by first | exact f.out | exact a.out _⟩;simp only [qko,withB,vap,vat] at *
  grind
theorem enIdx (p:Nat->Bool) (g:Nat) (lb:Array Value) (S:∀ l w,(callFunc g l).run prog w=.ok (.enter g l) w) (A:Option Addr) (c:Nat) (d:Array (EN)) (w:World) (h:RdK encE 10 w.heap.size w A d) (U:d.size<=1000000)
 (M:∀ i,i < d.size->∀ W,Below w.heap.size w W->Calls prog g (#[.agg (encE d[i]!).toArray] ++ lb) W fun e r=>e=.returned (.bool (p i))/\Below W.heap.size W r) :
 Calls prog 56 #[.slice A d.size c,.func (.func g) #[] lb] w fun e r=>IdxQ p d.size e/\Below w.heap.size w r:=by
 have O:=hI h;have N:=hI M;clear h M;go_in;go_wp2
 go_loopw [8] (fun i wr=>∃ k:Nat,i=.int .i64 k/\k<=d.size/\Hid (∀ j,j < k->p j=false)/\Hid (Below w.heap.size w wr)) (fun i _=>d.size - (intOf i).toNat)
 case atStart=>exact ⟨0,rfl,vaj _,hI (fun j t=>absurd t jo),hI (vag _ _)⟩
 case round =>
  obtain ⟨k,rfl,T,m,o⟩:=hrel;by_cases u:k < d.size
  .have V:(k:Int) < (d.size:Int):=by omega
   obtain ⟨b,R,rfl,Q,f⟩:=(O.out.below o.out).at_ (i:=k) jo;have B:=f 0 jo;have C:=f 1 jo;have D:=f 2 jo;have E:=f 3 jo;have F:=f 4 jo;have G:=f 5 jo;have H:=f 6 jo;have I:=f 7 jo;have J:=f 8 jo;have K:=f 9 jo;have s:=hI (fun W P=>N.out k u W P);obtain ⟨x,y⟩:∃ x,d[k]! = x:=⟨_,rfl⟩
   obtain ⟨q,v⟩:∃ q,p k=q:=⟨_,rfl⟩
   rw [y,v] at s;rw [y] at B C D E F G H I J K;have z:=hI v;clear f y v;simp only [vak,encE,vac,vaf] at B C D E F G H I J K s;cases q
   .go_wp2_with fail
    refine (s.out _ o.out).mono ?_;rintro e r ⟨rfl,a⟩;have n:=hI (qaa o.out a);clear a;go_wp2;go_roundw
    case rel =>
     refine ⟨k + 1,by go_num,by omega,hI (fun j t=>?_),n⟩;rcases val j k with h | h
     .exact m.out j h
     obtain rfl:j=k:=by omega
     exact z.out
    case measure=>simp [intOf];omega
   go_wp2_with fail;refine (s.out _ o.out).mono ?_;rintro e r ⟨rfl,a⟩;have n:=hI (qaa o.out a);clear a;go_wp2;go_ret;exact ⟨⟨k,rfl,Or.inl ⟨by omega,qlq k jo z.out⟩⟩,n.out⟩
  have L:decide ((k:Int) < (d.size:Int))=false:=by simp;omega
  go_wp2;go_ret;exact ⟨⟨-1,rfl,Or.inr ⟨rfl,qpy fun j t=>m.out j jo⟩⟩,o.out⟩
theorem enCont (p:Nat->Bool) (g:Nat) (lb:Array Value) (o:∀ a w,(callFunc g a).run prog w=.ok (.enter g a) w) (A:Option Addr) (c:Nat) (d:Array (EN)) (w:World) (h:RdK encE 10 w.heap.size w A d) (t:d.size<=1000000)
 (m:∀ i,i < d.size->∀ W,Below w.heap.size w W->Calls prog g (#[.agg (encE d[i]!).toArray] ++ lb) W fun e b=>e=.returned (.bool (p i))/\Below W.heap.size W b) :
 Calls prog 124 #[.slice A d.size c,.func (.func g) #[] lb] w fun e b=>e=.returned (.bool (anyN d.size p))/\Below w.heap.size w b:=by
 have n:=hI (enIdx p g lb o A c d w h t m);clear h m;go_in;go_wp2_with fail;refine n.out.mono ?_;rintro e b ⟨⟨r,rfl,s⟩,l⟩;have k:=hI l;clear l;rcases s with ⟨f,j⟩ | ⟨f,j⟩
 .have q:decide (0<=r)=true:=vah f
  go_wp2;go_ret;exact ⟨qad j.symm,k.out⟩
 subst f;go_wp2;go_ret;exact ⟨qad j.symm,k.out⟩
theorem far_any (e:EN) (n:Int) (g:Nat) (w:World) (A:g < w.heap.size) (s:w.cell? ⟨g,0,none⟩=some (.int .i64 n)) :
 Calls prog 122 #[.agg (encE e).toArray,.pointer (some ⟨g,0,none⟩)] w fun r o=>r=.returned (.bool (decide (n < qat e.id)))/\Below w.heap.size w o:=by
 have q:Hid (∀ W,Calls prog 66 #[.int .i64 e.id] W fun x o=>x=.returned (.int .i64 (qat e.id))/\Below W.heap.size W o):=fun W=>(qph e.id W).mono fun _ _ ⟨z,B⟩=>⟨z,B ▸ vag _ _⟩
 have i:=hI (bel1 w (.cells (encE e).toArray 58));have y:=vaw w (.cells (encE e).toArray 58);have h:(w.alloc (.cells (encE e).toArray 58)).cell? ⟨w.heap.size,0,none⟩=some (.int .i64 e.id):=qau w _ _ 0;have b:(w.alloc (.cells (encE e).toArray 58)).cell? ⟨g,0,none⟩=some (.int .i64 n):=(vbq w _ _ A).trans s;have k:g < (w.alloc (.cells (encE e).toArray 58)).heap.size:=by simp;omega
 have d:w.heap.size < (w.alloc (.cells (encE e).toArray 58)).heap.size:=by simp
 simp only [encE] at i h b k d |-
 generalize qat e.id=D at q |-
 clear s y;go_in;go_wp2_with fail;generalize w.alloc (.cells #[.int .i64 e.id,.int .i64 e.ph,.int .i64 e.qu,.int .i64 e.t,.int .i64 e.bal,.int .i64 e.abal,.int .i64 e.seen,.int .i64 e.age,.string e.pay,.slice e.A e.z.size e.c] 58)=t at i h b k d |-
 have u:=fun p:ExtW t=>p.cell (a:=⟨w.heap.size,0,none⟩) d h
 have v:=fun p:ExtW t=>p.cell (a:=⟨g,0,none⟩) k b
 clear h b;refine wprX ?_
 repeat (go_big_quiet_step ((go_at_call 66;exact Calls.ext_of (q.out _))))
 refine van ?_;intro C l;obtain ⟨⟨W,f⟩,c⟩:=l;have m:C=W:=c;subst m;have j:=hI (qaa i.out f);clear f c u v;go_wp2;go_ret;exact ⟨rfl,j.out⟩
theorem cmds_any (r:RP) (w:World) (h:RdP w r) (d:FewC r) :
 Calls prog 50 #[.agg (encP r).toArray] w fun e m=>e=.returned (.bool (qzq r))/\Below w.heap.size w m:=by
 have l:r.e.z.size<=1000000:=by have:=d.es;omega
 have g:=hI (fun W (a:Below w.heap.size w W)=>qyt r.e.A r.e.c r.e.z W ((h.below a).tab d));have b:=hI (BoxW.init w (encP r).toArray 95)
 have f:=hI (fun W (a:BoxW w (encP r).toArray W)=>enCont (farB r) 122 #[.pointer (some ⟨w.heap.size,0,none⟩)] (veb func122 jk rfl) r.e.A r.e.c r.e.z W (h.e.below a.b).rd l
  (fun i o j c=>far_any r.e.z[i]! r.n w.heap.size j (vad a.lt c.size) ((a.next c).at_ 0)))
 have k:=tabE_bool r.e.z;clear h d;simp only [encP] at b f |-
 go_in
 go_wp2_with (first
  | (go_at_call 123;refine (g.out _ b.out.b).mono ?_;rintro _ n ⟨rfl,a⟩;have b:=hI (b.out.next a);clear a;have c7:=b.out.at_ 7)
  | (go_at_call 124;refine (f.out _ b.out).mono ?_;rintro _ n ⟨rfl,a⟩;have b:=hI (b.out.next a);clear a))
 all_goals
  go_ret;refine ⟨qad ?_,b.out.b⟩;simp only [qzq] at *
  grind
theorem hear1_any (k:KE) (w:World) (h:RdKE w k) :
 Calls prog 125 #[.agg (qav k).toArray] w fun r d=>r=.returned (.bool (!chkB k.kn))/\Below w.heap.size w d:=by
 have c:=hI (fun W (a:Below w.heap.size w W)=>qzh (.agg (qav k).toArray) k.kn W (h.below a).knV);have b:=hI (bel1 w (.cells (qav k).toArray 66));have g:(chkE k.kn != 0) = !chkB k.kn:=by unfold chkE;cases chkB k.kn <;> rfl
 clear h;simp only [qav] at c b |-
 go_in;go_wp2_with fail;refine (c.out _ b.out).mono ?_;rintro e d ⟨rfl,a⟩;have f:=hI (qaa b.out a);clear a;go_wp2;go_ret;exact ⟨rfl,f.out⟩
theorem fin1_any (A:Option Addr) (c:Nat) (d:Array (Int×Int)) (w:World) (h:RdK encR 2 w.heap.size w A d) (B:d.size<=1000000) :
 Calls prog 127 #[.slice A d.size c] w fun r t=>r=.returned (.bool (qiy d))/\Below w.heap.size w t:=by
 have l:=hI (qkv A c d w h);have a:Hid (qiy d=((qam d != 0) || (decide (0 < d.size) && decide (99999 < d[d.size - 1]!.2)))):=hI rfl;have u:=hI h;clear h;generalize qam d=g at l a;rcases vba d.size with k | k
 .obtain rfl:d=#[]:=var k
  have a:Hid (qiy #[]=(g != 0)):=by show _=_;rw [a.out];simp
  simp only [Array.size_empty] at l |-
  clear k u B;go_in;go_wp2_with fail;refine l.out.mono ?_;rintro e t ⟨rfl,j⟩;have m:=hI j;clear j;go_wp2
  all_goals
   go_ret;refine ⟨qad ?_,m.out⟩;rw [a.out]
   grind
 have C:decide ((0:Int) < (d.size:Int))=true:=by simp;omega
 rw [vah k] at a;obtain ⟨n,z⟩:∃ n,n + 1=d.size:=⟨d.size - 1,by omega⟩
 have v:(d.size:Int) - 1=(n:Int):=by omega
 have y:(n:Int) < (d.size:Int):=by omega
 obtain ⟨b,s,rfl,q,f⟩:=u.out.at_ (i:=n) jo;have o:=f 1 jo;rw [show d.size - 1=n by omega] at a;generalize d[n]! = x at o a;simp only [encR,vac,vaf] at o;clear f k z;go_in;go_wp2_with fail;refine l.out.mono ?_;rintro e t ⟨rfl,j⟩;have u1:=(j.cell (p:=⟨b,s + n * 2 + 1,none⟩) q).trans o;have m:=hI j;clear j;go_wp2
 all_goals
  go_ret;refine ⟨qad ?_,m.out⟩;rw [a.out]
  grind
theorem eqA_S (x y:Int×Int) (w:World):(binOp .eql 29 (.agg #[.int .i64 x.1,.int .i64 x.2]) (.agg #[.int .i64 y.1,.int .i64 y.2])).run prog w=.ok (.bool (decide (x=y))) w:=by
 have c:prog.underlying 29 = some (.struct (prog.fieldsOf 29)):=by kernel_rfl
 have d:prog.stoodInHeld 29 = false:=by kernel_rfl
 have u3:=underlying3;rw [run_eql_struct,show (10000:Nat)=9999 + 1 from rfl,veg w 9999 29 _ _ c d];simp only [Program.fieldsOf,underlying29];go_simp;obtain ⟨e,f⟩:=x;obtain ⟨g,h⟩:=y;by_cases a:e=g <;> by_cases b:f=h <;> simp [a,b]
theorem hears_any (r:RP) (w:World) (h:RdP w r) (c:FewC r) :
 Calls prog 51 #[.agg (encP r).toArray] w fun e s=>e=.returned (.bool (qov r))/\Below w.heap.size w s:=by
 have a:=hI (BoxW.init w (encP r).toArray 95)
 have k:=hI (fun W (b:Below w.heap.size w W)=>keCont (fun i=>!chkB r.k.z[i]!.kn) 125 #[] (veb func125 jk rfl) r.k.A r.k.c r.k.z W (h.k.below b).rd (jg c.k)
  (fun i d m f=>hear1_any r.k.z[i]! m (((h.kk i d).below b).below f)))
 have j:=hI (fun W (b:Below w.heap.size w W)=>qha r.m.A r.m.c r.m.z r.n W (h.m.below b).rd (fun i d=>(h.mm i d).below b) (jg c.m) (fun i d=>by have:=c.mm i d;omega));have l:=hI (fun W (b:Below w.heap.size w W)=>qfs r.fr.A r.fr.c r.fr.z r.n _ W (h.fr.below b).rd (jg c.fr));have p:=qzo r.m.z r.n;have q:(qea r.m.z r.n == 0)=qey r.m.z r.n:=by unfold qea;cases qey r.m.z r.n <;> rfl
 have g:(r.k.z.size:Int)<=20:=by have:=c.k;omega
 clear h c;simp only [encP] at a |-
 go_in
 go_wp2_with (first
  | (go_at_call 126;refine (k.out _ a.out.b).mono ?_;rintro _ t ⟨rfl,b⟩;have a:=hI (a.out.next b);clear b;have n:=a.out.at_ 0;have o:=a.out.at_ 10;have c11:=a.out.at_ 11)
  | (go_at_call 77;refine (j.out _ a.out.b).mono ?_;rintro _ u ⟨rfl,b⟩;have a:=hI (a.out.next b);clear b;have n:=a.out.at_ 0;have c11:=a.out.at_ 11)
  | (go_at_call 79;refine (l.out _ a.out.b).mono ?_;rintro _ v ⟨rfl,b⟩;have a:=hI (a.out.next b);clear b))
 all_goals
  go_ret;refine ⟨qad ?_,a.out.b⟩;simp only [qov] at *
  grind
theorem fin_any (r:RP) (w:World) (h:RdP w r) (d:FewC r) :
 Calls prog 52 #[.agg (encP r).toArray] w fun e p=>e=.returned (.bool (finB r))/\Below w.heap.size w p:=by
 have a:=hI (BoxW.init w (encP r).toArray 95)
 have l:=hI (fun W (b:Below w.heap.size w W)=>rrCont (fun i=>qiy r.d.z[i]!.z) 127 #[] (veb func127 jk rfl) r.d.A r.d.c r.d.z W (h.d.below b).rd (jg d.d)
  (fun i j m f=>fin1_any r.d.z[i]!.A r.d.z[i]!.c r.d.z[i]!.z m (((h.dd i j).below b).below f).rd (by have:=d.dd i j;omega)))
 have q:=fun W=>eqA_S (r.lt,r.lid) (0,0) W
 have c:=qjl r.lid;have k:(qfi r.lid == 0)=decide (10<=r.lid/\r.lid<=999999/\r.lid % 10≠0):=by
  have:(qfi r.lid == 0) = !(qfi r.lid != 0):=by simp [bne]
  rw [this,c,Bool.not_not]
 have g:(r.d.z.size:Int)<=20:=by have:=d.d;omega
 clear h d c;simp only [encP] at a |-
 go_in
 go_wp2_with (first
  | (go_at_call 129;refine (l.out _ a.out.b).mono ?_;rintro _ s ⟨rfl,b⟩;have a:=hI (a.out.next b);clear b;have n:=a.out.at_ 13;have o:=a.out.at_ 14)
  | (go_at_call 130;refine (qdc _ _).mono ?_;rintro _ _ ⟨rfl,rfl⟩))
 all_goals
  go_ret;refine ⟨qad ?_,a.out.b⟩;simp only [finB,lastB] at *
  grind
structure InsU (d:Array (Int×Int)) (m:Nat) (o:Array (Int×Int)):Prop where
 up:o.toList.Pairwise fun x y=>x.1<=y.1
 mem:∀ x,x ∈ o.toList↔x ∈ d.toList.take m/\x.1<=x.2
 sz:o.size<=m
theorem InsU.nil (d:Array (Int×Int)):InsU d 0 #[]:=⟨by simp,by simp,vaa _⟩
theorem qcv {d:Array (Int×Int)} {m:Nat} (a:m < d.size):d.toList.take (m + 1)=d.toList.take m ++ [d[m]!]:=by
 rw [vdb];simp [a]
theorem InsU.skip {d o:Array (Int×Int)} {m:Nat} (h:InsU d m o) (c:m < d.size) (e:d[m]!.2 < d[m]!.1):InsU d (m + 1) o:=by
 refine ⟨h.up,fun x=>?_,by have:=h.sz;omega⟩;rw [h.mem,qcv c,vbw,vco]
 constructor
 .rintro ⟨a,b⟩
  exact ⟨Or.inl a,b⟩
 rintro ⟨a | rfl,b⟩
 .exact ⟨a,b⟩
 omega
theorem InsU.put {d o:Array (Int×Int)} {m k:Nat} (h:InsU d m o) (B:m < d.size) (D:d[m]!.1<=d[m]!.2) (K:k<=o.size) (v:∀ j,j < k->o[j]!.1<=d[m]!.1) (A:k < o.size->d[m]!.1 < o[k]!.1) :
 InsU d (m + 1) (#[] ++ (o.toList.take k).toArray ++ #[d[m]!] ++ (o.toList.drop k).toArray):=by
 have e:(#[] ++ (o.toList.take k).toArray ++ #[d[m]!] ++ (o.toList.drop k).toArray).toList=o.toList.take k ++ d[m]! :: o.toList.drop k:=by simp
 refine ⟨?_,fun x=>?_,?_⟩
 .rw [e]
  have u:=h.up;rw [<-vep k o.toList] at u;obtain ⟨E,s,F⟩:=vcm.1 u;have G:∀ y ∈ o.toList.take k,y.1<=d[m]!.1:=fun y g=>by
   obtain ⟨j,t,rfl⟩:=List.mem_take_iff_getElem.1 g;have p:j < o.size:=by simp at t;omega
   have:=v j (by simp at t;omega)
   rw [vae o j p] at this;simpa using this
  have H:∀ y ∈ o.toList.drop k,d[m]!.1<=y.1:=fun y g=>by
   rcases val k o.size with l | n
   .have q:k < o.toList.length:=by simpa using l
    rw [vdp q] at g s;have i:=A l;rw [vae o k jo] at i;rcases vcb.1 g with rfl | g
    .exact Int.le_of_lt (by simpa using i)
    have I:=(vbu.1 s).1 y g;have J:d[m]!.1 < (o.toList[k]).1:=by simpa using i
    omega
   rw [vcl (by simpa using n)] at g;cases g
  refine vcm.2 ⟨E,vbu.2 ⟨H,s⟩,fun y g z r=>?_⟩;rcases vcb.1 r with rfl | r
  .exact G y g
  exact F y g z r
 .rw [e,qcv B,vbw,vcb,vbw,vco]
  have C:x ∈ o.toList↔x ∈ o.toList.take k\/x ∈ o.toList.drop k:=by rw [<-vbw,vep]
  have f:=h.mem x;rw [C] at f
  constructor
  .rintro (a | rfl | a)
   .exact ⟨Or.inl (f.1 (Or.inl a)).1,(f.1 (Or.inl a)).2⟩
   .exact ⟨Or.inr rfl,D⟩
   exact ⟨Or.inl (f.1 (Or.inr a)).1,(f.1 (Or.inr a)).2⟩
  rintro ⟨a | rfl,b⟩
  .rcases f.2 ⟨a,b⟩ with c | c
   .exact Or.inl c
   exact Or.inr (Or.inr c)
  exact Or.inr (Or.inl rfl)
 have:=h.sz
 simp;omega
theorem InsU.fin {d o:Array (Int×Int)} (h:InsU d d.size o) (g:∀ x ∈ d.toList,x.1<=x.2->1<=x.1/\x.2<=1000000):IsN (inR d) (qhc o.toList)/\(qhc o.toList).size<=d.size:=by
 have e:∀ x,x ∈ o.toList↔x ∈ d.toList/\x.1<=x.2:=fun x=>by
  have:=h.mem x
  rwa [vaz js] at this
 have:=qlr o.toList #[] ⟨by simp,by simp⟩ (fun x b=>by
  obtain ⟨a,c⟩:=(e x).1 b
  have:=g x a c
  omega) h.up js
 refine ⟨⟨this.1,fun n=>?_⟩,?_⟩
 .show inR (List.foldl addF #[] o.toList) n=_
  rw [this.2 n];have f:inR #[] n=false:=rfl;rw [f,Bool.false_or,vbd,qmy,qgi]
  constructor
  .rintro ⟨x,b,a⟩
   exact ⟨x,((e x).1 b).1,a⟩
  rintro ⟨x,b,a,c⟩;exact ⟨x,(e x).2 ⟨b,by omega⟩,a,c⟩
 have a:=qgr o.toList #[];have c:=h.sz;unfold qhc;simp at a |-
 omega
def wo1 (n:Int) (r:Int×Int):List (Int×Int) :=
 if n < r.1\/r.2 < n then (if r.1<=r.2 then [r] else []) else (if r.1 < n then [(r.1,n - 1)] else []) ++ (if n < r.2 then [(n + 1,r.2)] else [])
def woL (n:Int) (l:List (Int×Int)):List (Int×Int):=l.flatMap (wo1 n)
theorem wo1_in (n m:Int) (r:Int×Int):(wo1 n r).any (qcg m)=true↔(r.1<=m/\m<=r.2)/\m≠n:=by
 rw [qmy];unfold wo1
 constructor
 .rintro ⟨x,a,b,d⟩
  split at a
  .split at a
   .obtain rfl:=vco.1 a
    omega
   cases a
  rcases vbw.1 a with a | a
  .split at a
   .obtain rfl:=vco.1 a
    simp only at b d;omega
   cases a
  split at a
  .obtain rfl:=vco.1 a
   simp only at b d;omega
  cases a
 rintro ⟨⟨b,d⟩,e⟩;by_cases c:n < r.1\/r.2 < n
 .rw [vam c,vam jo]
  exact ⟨r,by simp,b,d⟩
 rw [vao c];rcases Int.lt_or_gt_of_ne e with g | g
 .exact ⟨(r.1,n - 1),by rw [vam jo];simp,b,by simp only;omega⟩
 exact ⟨(n + 1,r.2),by rw [vam (show n < r.2 by omega)];simp,by simp only;omega,d⟩
theorem wo1_sub {n:Int} {r x:Int×Int} (a:x ∈ wo1 n r):r.1<=x.1/\x.2<=r.2:=by
 unfold wo1 at a;split at a
 .split at a
  .obtain rfl:=vco.1 a
   omega
  cases a
 rcases vbw.1 a with a | a
 .split at a
  .obtain rfl:=vco.1 a
   simp only;omega
  cases a
 split at a
 .obtain rfl:=vco.1 a
  simp only;omega
 cases a
theorem wo1_ris (n:Int) (r:Int×Int):(wo1 n r).Pairwise (fun x y=>x.2 < y.1):=by
 unfold wo1;split
 .split <;> simp
 split <;> split <;> simp;omega
theorem qut (n:Int) (r:Int×Int):(wo1 n r).length<=2/\(n < r.1\/r.2 < n->(wo1 n r).length<=1):=by
 unfold wo1;refine ⟨?_,fun h=>?_⟩
 .split
  .split <;> simp
  split <;> split <;> simp
 rw [vam h];split <;> simp
theorem woL_in (n m:Int) (l:List (Int×Int)):(woL n l).any (qcg m)=true↔l.any (qcg m)=true/\m≠n:=by
 induction l with
 | nil=>simp [woL]
 | cons r l ih =>
   have e:woL n (r :: l)=wo1 n r ++ woL n l:=by simp [woL]
   rw [e,vel,vcd,wo1_in,ih,any_cons]
   constructor
   .rintro (⟨a,b⟩ | ⟨a,b⟩)
    .exact ⟨Or.inl a,b⟩
    exact ⟨Or.inr a,b⟩
   rintro ⟨a | a,b⟩
   .exact Or.inl ⟨a,b⟩
   exact Or.inr ⟨a,b⟩
theorem woL_sub {n:Int} {l:List (Int×Int)} {x:Int×Int} (b:x ∈ woL n l):∃ r ∈ l,r.1<=x.1/\x.2<=r.2:=by
 obtain ⟨r,a,h⟩:=List.mem_flatMap.1 b;exact ⟨r,a,wo1_sub h⟩
theorem woL_ris (n:Int):∀ {l:List (Int×Int)},l.Pairwise (fun x y=>x.2 < y.1)->(woL n l).Pairwise (fun x y=>x.2 < y.1)
 | [],_=>by simp [woL]
 | r :: l,h=>by
   obtain ⟨c,d⟩:=vbu.1 h;have e:woL n (r :: l)=wo1 n r ++ woL n l:=by simp [woL]
   rw [e];refine vcm.2 ⟨wo1_ris n r,woL_ris n d,fun x f y g=>?_⟩;have a:=wo1_sub f;obtain ⟨z,i,b⟩:=woL_sub g
   have:=c z i
   omega
theorem woL_few (n:Int):∀ {l:List (Int×Int)},(∀ x ∈ l,n < x.1)->(woL n l).length<=l.length
 | [],_=>by simp [woL]
 | r :: l,h=>by
   have e:woL n (r :: l)=wo1 n r ++ woL n l:=by simp [woL]
   have a:=(qut n r).2 (Or.inl (h r js));have b:=woL_few n (l:=l) fun x c=>h x (by simp [c])
   rw [e,vdk,vdy];omega
theorem woL_len (n:Int):∀ {l:List (Int×Int)},l.Pairwise (fun x y=>x.2 < y.1)->(woL n l).length<=l.length + 1
 | [],_=>by simp [woL]
 | r :: l,h=>by
   obtain ⟨b,d⟩:=vbu.1 h;have e:woL n (r :: l)=wo1 n r ++ woL n l:=by simp [woL]
   have a:=qut n r;rw [e,vdk,vdy];by_cases c:n < r.1\/r.2 < n
   .have:=a.2 c
    have:=woL_len n d
    omega
   have:=woL_few n (l:=l) fun x f=>by have:=b x f;omega
   omega
def woN (ts:List Int) (l:List (Int×Int)):List (Int×Int):=ts.foldl (fun l t=>woL t l) l
theorem woN_snoc (a:List Int) (t:Int) (l:List (Int×Int)):woN (a ++ [t]) l=woL t (woN a l):=by unfold woN;simp
theorem woN_ok:∀ (e:List Int) {l:List (Int×Int)},l.Pairwise (fun x y=>x.2 < y.1)->(woN e l).Pairwise (fun x y=>x.2 < y.1)/\(woN e l).length<=l.length + e.length/\∀ m,(woN e l).any (qcg m)=true↔l.any (qcg m)=true/\m ∉ e
 | [],l,h=>⟨h,by simp [woN],fun m=>by simp [woN]⟩
 | t :: e,l,h=>by
   obtain ⟨a,b,c⟩:=woN_ok e (woL_ris t h);have d:=woL_len t h;refine ⟨a,?_,fun m=>?_⟩
   .show (woN e (woL t l)).length<=_
    rw [vdy];omega
   show (woN e (woL t l)).any (qcg m)=true↔_;rw [c,woL_in,vcb,not_or,and_assoc]
def quu (k:KN) (lo hi:Int) (ts:List Int):Array (Int×Int):=(woN ts [(max lo k.base + 1,hi)]).toArray
theorem qqa (k:KN) (lo hi:Int) (a:List Int) (m:Int):inR (quu k lo hi a) m=true↔(max lo k.base < m/\m<=hi)/\m ∉ a:=by
 have:=(woN_ok a (l:=[(max lo k.base + 1,hi)]) js).2.2 m
 unfold quu inR;rw [this];simp [qcg];omega
theorem toldK_ok {k:KN} {lo hi:Int} {d:List Int} (f:0<=k.base) (g:hi<=1000000):∀ x ∈ (quu k lo hi d).toList,x.1<=x.2->1<=x.1/\x.2<=1000000:=fun x e c=>by
 have a:=(qqa k lo hi d x.1).1 (qgi.2 ⟨x,e,vdo _,c⟩);have b:=(qqa k lo hi d x.2).1 (qgi.2 ⟨x,e,c,vdo _⟩);omega
def qow (k:KN) (atts:Array (Int×Int)):List Int:=qbn atts.toList ++ qbn k.ats.toList
theorem uni_add {k:KN} {lo hi:Int} {a:Array (Int×Int)} (m:Int):inR (k.rs ++ quu k lo hi (qow k a)) m=pK k lo hi a m:=by
 rw [qoz,vbd,vcd,qqa,qlc];unfold qow;rw [vbw,not_or]
theorem qzu {k:KN} {lo hi:Int} {a:Array (Int×Int)} (h:AddA k lo hi a):∀ x ∈ (k.rs ++ quu k lo hi (qow k a)).toList,x.1<=x.2->1<=x.1/\x.2<=1000000:=fun x b c=>by
 rw [vet,vbw] at b;rcases b with b | b
 .have:=(NL.of_set h.chk.rs).1 x b
  omega
 exact toldK_ok h.chk.b0 h.hi1 x b c
theorem setlK_in {k:KN} {ids:Array Int} {m:Int}:inR (qjq k ids) m=true↔∃ a ∈ k.ats.toList,a.2 ∈ ids.toList/\a.1=m:=by
 unfold qjq;rw [qgi]
 constructor
 .rintro ⟨x,g,b,e⟩
  obtain ⟨a,c,rfl⟩:=vcp.1 (show x ∈ List.map (fun a:Int×Int=>(a.1,a.1)) (k.ats.toList.filter (qds ids)) from g);obtain ⟨f,d⟩:=vck.1 c;simp only at b e;exact ⟨a,f,by unfold qds at d;exact vct.1 d,by omega⟩
 rintro ⟨a,c,b,rfl⟩;refine ⟨(a.1,a.1),?_,vdo _,vdo _⟩;simp only [vcp];exact ⟨a,vck.2 ⟨c,by unfold qds;exact vct.2 b⟩,rfl⟩
theorem uni_set {k:KN} {ids:Array Int} (m:Int):inR (k.rs ++ qjq k ids) m=pS k ids m:=by
 rw [qoz,vbd,vcd,setlK_in,qld]
theorem qzv {k:KN} {ids:Array Int} (h:ChkP k):∀ x ∈ (k.rs ++ qjq k ids).toList,x.1<=x.2->1<=x.1/\x.2<=1000000:=fun x b _=>by
 rw [vet,vbw] at b;rcases b with b | b
 .have:=(NL.of_set h.rs).1 x b
  omega
 unfold qjq at b;obtain ⟨a,c,rfl⟩:=vcp.1 (show x ∈ List.map (fun a:Int×Int=>(a.1,a.1)) (k.ats.toList.filter (qds ids)) from b)
 have:=((qbs _ _ _).1 h.up).2 a (vck.1 c).1
 have:=h.b0
 simp only;omega
def opN (l:List (Int×Int)):List Int:=l.foldl (fun o a=>putL a.2 o) []
theorem opN_snoc (l:List (Int×Int)) (a:Int×Int):opN (l ++ [a])=putL a.2 (opN l):=by unfold opN;simp
theorem opN_ok (l:List (Int×Int)):(opN l).Pairwise (· < ·)/\∀ x,x ∈ opN l↔x ∈ l.map (·.2):=by
 have b:∀ (l:List (Int×Int)) (o:List Int),o.Pairwise (· < ·)->(l.foldl (fun o a=>putL a.2 o) o).Pairwise (· < ·)/\∀ x,x ∈ l.foldl (fun o a=>putL a.2 o) o↔x ∈ o\/x ∈ l.map (·.2):=by
  intro l
  induction l with
  | nil=>intro o h;exact ⟨h,fun x=>by simp⟩
  | cons a l ih =>
    intro o h;obtain ⟨p,q⟩:=ih (putL a.2 o) (qhf _ _ h);refine ⟨p,fun x=>?_⟩;rw [ves,q,qin];simp only [List.map_cons,vcb]
    constructor
    .rintro ((h | h) | h)
     .exact Or.inr (Or.inl h)
     .exact Or.inl h
     exact Or.inr (Or.inr h)
    rintro (h | h | h)
    .exact Or.inl (Or.inr h)
    .exact Or.inl (Or.inl h)
    exact Or.inr h
 obtain ⟨p,q⟩:=b l [] js;exact ⟨p,fun x=>by have:=q x;simpa [opN] using this⟩
theorem opN_len (l:List (Int×Int)):(opN l).length<=l.length:=by
 have b:∀ (l:List (Int×Int)) (o:List Int),(l.foldl (fun o a=>putL a.2 o) o).length<=o.length + l.length:=by
  intro l
  induction l with
  | nil=>intro o;simp
  | cons a l ih =>
    intro o;have c:=ih (putL a.2 o);have d:=qka a.2 o;rw [ves,vdy];omega
 have:=b l []
 simpa [opN] using this
theorem opN_open {k:KN} (h:chkB k=true):OpenR k (opN k.ats.toList).toArray:=⟨by simpa using (opN_ok k.ats.toList).1,fun x=>by rw [h];simpa using (opN_ok k.ats.toList).2 x⟩
theorem qqb {k r:KN} {lo hi:Int} {a:Array (Int×Int)} (h:AddA k lo hi a) (d:AddR k lo hi a r) (f:k.ats.size + a.size<=400):ChkP r/\k.base<=r.base/\r.ats.size<=k.ats.size + a.size/\∀ t,inR k.rs t=true->hasK r t=true:=by
 obtain ⟨l,c,_,b⟩:=d.ok h f;refine ⟨b.chk,b.up,?_,fun t e=>?_⟩
 .rw [b.eat]
  exact qro k a
 rw [b.has];exact Or.inr ((c.2 t).trans (qlc.2 (Or.inl e)))
theorem qwt {k s:KN} {ids:Array Int} (h:ChkP k) (c:SetR k ids s):ChkP s/\k.base<=s.base/\∀ t,inR k.rs t=true->hasK s t=true:=by
 obtain ⟨l,b,_,a⟩:=c.ok h;refine ⟨a.chk,a.up,fun t d=>?_⟩;rw [a.has];exact Or.inr ((b.2 t).trans (qld.2 (Or.inl d)))
theorem own_mark {d c b:KN} {lo hi:Int} {a:Array (Int×Int)} {ids:Array Int} (t:AddA d lo hi a) (r:AddR d lo hi a c) (A:d.ats.size + a.size<=400) (s:SetR c ids b) (y:b.ats.size=0) (J:lo<=d.base):hi<=b.base:=by
 obtain ⟨D,B,_,g⟩:=r.ok t A;obtain ⟨K,C,_,k⟩:=s.ok g.chk;refine Classical.byContradiction fun I=>?_
 have u:=g.up;have v:=k.up;have E:=k.nx;have o:pS c ids (b.base + 1)=false:=(C.2 _).symm.trans E;have p:inR c.rs (b.base + 1)=false:=by
  rw [vbi];exact fun h=>(vbi.1 o) (qld.2 (Or.inl h))
 have F:inR D (b.base + 1)=false:=by
  rw [g.out] at p
  have:decide (c.base < b.base + 1)=true:=vah jo
  rwa [this,Bool.and_true] at p
 have q:pK d lo hi a (b.base + 1)=false:=(B.2 _).symm.trans F;have G:inR d.rs (b.base + 1)=false:=by
  rw [vbi];exact fun h=>(vbi.1 q) (qlc.2 (Or.inl h))
 have H:∃ x ∈ c.ats.toList,x.1=b.base + 1:=by
  rw [g.eat];by_cases m:b.base + 1 ∈ qbn d.ats.toList
  .obtain ⟨x,f,e⟩:=vcp.1 m
   exact ⟨x,qjp.2 (Or.inl f),e⟩
  by_cases n:b.base + 1 ∈ qbn a.toList
  .obtain ⟨x,f,e⟩:=vcp.1 n
   have j:x.1=b.base + 1:=e;exact ⟨x,qjp.2 (Or.inr ⟨f,by omega,by rw [j];exact G,by rw [j];exact m⟩),j⟩
  exact absurd (qlc.2 (Or.inr ⟨⟨by omega,by omega⟩,n,m⟩)) (vbi.1 q)
 obtain ⟨x,f,e⟩:=H;have z:b.ats=qfj c ids:=k.eat;have i:qds ids x=true:=by
  cases i:qds ids x
  .have l:x ∈ (qfj c ids).toList:=by
    show x ∈ List.filter _ _;exact vck.2 ⟨f,by rw [i];rfl⟩
   rw [<-z] at l
   have:b.ats.toList=[]:=by
    rw [Array.size_eq_zero_iff.1 y]
   rw [this] at l;cases l
  rfl
 refine (vbi.1 o) (qld.2 (Or.inr ⟨x,f,?_,e⟩));unfold qds at i;simpa using i
def KnF (B:Nat) (w:World) (v:Value) (k:KN):Prop:=∃ A1 c1 A2 c2,v=.agg #[.int .i64 k.base,.slice A1 k.rs.size c1,.slice A2 k.ats.size c2]/\RdK encR 2 w.heap.size w A1 k.rs/\RdK qae 2 w.heap.size w A2 k.ats/\(A1=none->c1=0)/\(A2=none->c2=0)/\(∀ g off,A1=some ⟨g,off,none⟩->B<=g)/\(∀ g off,A2=some ⟨g,off,none⟩->B<=g)
theorem keOfF {B:Nat} {w:World} {v:Value} {k:KN} (h:KnF B w v k):∃ x:KE,v=.agg (qav x).toArray/\x.kn=k/\RdKE w x/\(∀ g a,x.r.A=some ⟨g,a,none⟩->B<=g)/\(∀ g a,x.a.A=some ⟨g,a,none⟩->B<=g):=by
 obtain ⟨b,d,c,e,rfl,f,i,j,l,m,n⟩:=h;exact ⟨⟨k.base,⟨b,d,k.rs⟩,⟨c,e,k.ats⟩⟩,rfl,rfl,⟨⟨f,j⟩,⟨i,l⟩⟩,m,n⟩
end Go.Proofs.YtdcfffhoajmafaaGreat
