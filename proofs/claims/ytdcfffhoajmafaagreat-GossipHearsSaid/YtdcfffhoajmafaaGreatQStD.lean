/- Texts that the law leans on. -/
import Derived.Test.YtdcfffhoajmafaaGreatQEnC
set_option maxRecDepth 100000
set_option maxHeartbeats 16000000
namespace Go.Proofs.YtdcfffhoajmafaaGreat
open Go.RowKit Go.Sort Go.Lib Go.Proofs.Tryz
def RckA (r:RP) (a0 c15 c21 c18 c17:Int):Prop :=
 a0≠0/\1<=r.self/\r.self<=r.n/\c15=0/\0<=r.seq/\r.seq<=99999/\0<=r.ticks/\r.ticks<=1000000/\0<=r.count/\r.count<=1000000/\c21=0/\(r.k.z.size:Int)=r.n/\c18=0/\c17=0/\(r.d.z.size:Int)=r.n
def RckB (r:RP) (ck cd:Nat->Int):Prop :=
 (∀ i,i < r.e.z.size->qat r.e.z[i]!.id<=r.n)/\(∀ i,i < r.k.z.size->ck i=0/\cd i=0/\∀ j,j < r.d.z[i]!.z.size->r.d.z[i]!.z[j]!.2<=99999)
def RckC (r:RP):Prop:=(r.lt=0/\r.lid=0)\/((10<=r.lid/\r.lid<=999999/\r.lid % 10≠0)/\1<=r.lt/\r.lt<=1000000)
theorem qtb (id:Int):(qat id == 0) = !decide (10<=id/\id<=999999/\id % 10≠0):=by
 unfold qat;by_cases h:id < 10\/999999 < id\/id % 10=0
 .rw [vam h,vab jo];rfl
 rw [vao h,vah jo];exact vch.2 jo
theorem qqq (r:RP) (w:World) (a0 a1 a2 G J I H:Int) (Z Y:Nat->Int) (x:Int)
 (hE:RdK encE 10 w.heap.size w r.e.A r.e.z) (hK:RdK qav 3 w.heap.size w r.k.A r.k.z) (hD:RdK encW 1 w.heap.size w r.d.A r.d.z) (e7:∀ i,i < r.d.z.size->RdK encR 2 w.heap.size w r.d.z[i]!.A r.d.z[i]!.z)
 (hz:r.e.z.size<=1000/\r.k.z.size<=1000/\r.d.z.size<=1000) (e9:∀ i,i < r.d.z.size->r.d.z[i]!.z.size<=1000)
 (h1:∀ W,Below w.heap.size w W->Calls prog 59 #[.int .i64 r.n,.int .i64 r.f] W fun e t=>e=.returned (.tuple #[.int .i64 a0,.int .i64 a1,.int .i64 a2])/\Below W.heap.size W t)
 (d8:∀ W,Below w.heap.size w W->Calls prog 115 #[.int .i64 r.clock,.int .i64 r.floor,.slice r.o.A r.o.z.size r.o.c] W fun e t=>e=.returned (.int .i64 G)/\Below W.heap.size W t)
 (e5:∀ W,Below w.heap.size w W->Calls prog 116 #[.slice r.e.A r.e.z.size r.e.c] W fun e t=>e=.returned (.int .i64 J)/\Below W.heap.size W t)
 (e4:∀ W,Below w.heap.size w W->Calls prog 100 #[.slice r.m.A r.m.z.size r.m.c,.int .i64 r.n] W fun e t=>e=.returned (.int .i64 I)/\Below W.heap.size W t)
 (e3:∀ W,Below w.heap.size w W->Calls prog 101 #[.slice r.fr.A r.fr.z.size r.fr.c,.int .i64 r.n] W fun e t=>e=.returned (.int .i64 H)/\Below W.heap.size W t)
 (d9:∀ i,i < r.k.z.size->∀ W,Below w.heap.size w W->Calls prog 92 #[.agg (qav r.k.z[i]!).toArray] W fun e t=>e=.returned (.int .i64 (Z i))/\Below W.heap.size W t)
 (d7:∀ i,i < r.d.z.size->∀ W,Below w.heap.size w W->Calls prog 118 #[.slice r.d.z[i]!.A r.d.z[i]!.z.size r.d.z[i]!.c] W fun e t=>e=.returned (.int .i64 (Y i))/\Below W.heap.size W t)
 (P:RckA r a0 G J I H->RckB r Z Y->RckC r->x=0) (D:¬ RckA r a0 G J I H->x=2) (N:¬ RckB r Z Y->x=2) (O:¬ RckC r->x=2) :
 Calls prog 48 #[.agg (encP r).toArray] w fun e t=>e=.returned (.int .i64 x)/\Below w.heap.size w t:=by
 have H1:=hI h1;have Q:=hI d8;have T:=hI e5;have S:=hI e4;have R:=hI e3;have b7:=hI d9;have b6:=hI d7;have d3:=hI hE;have d4:=hI hK;have d2:=hI hD;have d5:=hI e7;have d6:=hI e9;have HY:=hI P;have B:=hI N;have b9:=hI O;obtain ⟨z1,z2,z3⟩:=hz;have a:=hI (BoxW.init w (encP r).toArray 35);clear h1 d8 e5 e4 e3 d9 d7 hE hK hD e7 e9 P N O;simp only [encP] at a |-
 by_cases C:RckA r a0 G J I H
 .have f5:=hI C
  obtain ⟨a5,s1,s2,rfl,q1,q2,t1,t2,n1,n2,rfl,a8,rfl,rfl,a6⟩:=C;have b0:(a0 == 0)=false:=vch.2 a5;have b1:((r.k.z.size:Int) != r.n)=false:=by simp [a8]
  have b2:((r.d.z.size:Int) != r.n)=false:=by simp [a6]
  have X:=hI a8;have f0:=hI a6;have g7:=hI a5;clear a8 a6 a5 D;go_in
  go_wp2_with (first
   | (go_at_call 59;refine (H1.out _ a.out.b).mono ?_;rintro _ w1 ⟨rfl,c⟩;have a:=hI (a.out.next c);clear c;have z:=a.out.at_ 0;have c2:=a.out.at_ 2;have c3:=a.out.at_ 3;have c4:=a.out.at_ 4;have c5:=a.out.at_ 5;have c6:=a.out.at_ 6;have c8:=a.out.at_ 8;have a3:=a.out.at_ 15)
   | (go_at_call 115;refine (Q.out _ a.out.b).mono ?_;rintro _ w2 ⟨rfl,c⟩;have a:=hI (a.out.next c);clear c;have z:=a.out.at_ 0;have c4:=a.out.at_ 4;have c6:=a.out.at_ 6;have a3:=a.out.at_ 15;have c7:=a.out.at_ 7)
   | (go_at_call 116;refine (T.out _ a.out.b).mono ?_;rintro _ w3 ⟨rfl,c⟩;have a:=hI (a.out.next c);clear c;have z:=a.out.at_ 0;have c9:=a.out.at_ 9;have f7:=a.out.at_ 10)
   | (go_at_call 100;refine (S.out _ a.out.b).mono ?_;rintro _ w4 ⟨rfl,c⟩;have a:=hI (a.out.next c);clear c;have z:=a.out.at_ 0;have c11:=a.out.at_ 11)
   | (go_at_call 101;refine (R.out _ a.out.b).mono ?_;rintro _ w5 ⟨rfl,c⟩;have a:=hI (a.out.next c);clear c;have z:=a.out.at_ 0;have o:=a.out.at_ 12))
  clear b0 b1 b2 z o q1 q2 t1 t2 n1 n2
  go_loopw [6] (fun i wr=>∃ k:Nat,i=.int .i64 k/\k<=r.e.z.size/\Hid (∀ j,j < k->qat r.e.z[j]!.id<=r.n)/\Hid (BoxW w #[.int .i64 r.n,.int .i64 r.f,.int .i64 r.self,.int .i64 r.clock,.int .i64 r.seq,.int .i64 r.floor,.int .i64 r.ticks,.slice r.e.A r.e.z.size r.e.c,.slice r.o.A r.o.z.size r.o.c,.slice r.k.A r.k.z.size r.k.c,.slice r.m.A r.m.z.size r.m.c,.slice r.fr.A r.fr.z.size r.fr.c,.slice r.d.A r.d.z.size r.d.c,.int .i64 r.lt,.int .i64 r.lid,.int .i64 r.count,.slice r.it.A r.it.z.size r.it.c,.slice r.ss.A r.ss.z.size r.ss.c] wr)) (fun i _=>r.e.z.size - (intOf i).toNat)
  case atStart=>exact ⟨0,rfl,vaj _,hI (fun j F=>absurd F jo),a⟩
  case round =>
   obtain ⟨k,rfl,hk,n,d⟩:=hrel;have z:=d.out.at_ 0;have c7:=d.out.at_ 7;by_cases s:k < r.e.z.size
   .have kz:(k:Int) < (r.e.z.size:Int):=by omega
    obtain ⟨b,g1,C,f8,f⟩:=(d3.out.below d.out.b).at_ (i:=k) jo;have e0:=f 0 jo;rw [C] at c7;obtain ⟨y,hy⟩:∃ y,r.e.z[k]! = y:=⟨_,rfl⟩
    have HQ:Hid (r.e.z[k]! = y):=hI hy;rw [hy] at e0;clear f C hy;simp only [vak,encE,vac] at e0;go_wp2_with (go_at_call 117;refine (qdu _ _).mono ?_;rintro _ _ ⟨rfl,rfl⟩)
    .go_ret
     refine ⟨qag (B.out (fun h=>?_)).symm,d.out.b⟩
     have:=h.1 k s
     rw [HQ.out] at this;omega
    go_roundw
    case rel =>
     refine ⟨k + 1,by go_num,by omega,hI (fun j F=>?_),d⟩;rcases val j k with h | h
     .exact n.out j h
     obtain rfl:j=k:=by omega
     rw [HQ.out];omega
    case measure=>simp [intOf];omega
   have e8:decide ((k:Int) < (r.e.z.size:Int))=false:=by simp;omega
   have b8:Hid (∀ j,j < r.e.z.size->qat r.e.z[j]!.id<=r.n):=fun j F=>n.out j jo
   clear n;go_wp2
   go_loopw [9] (fun i wr=>∃ k:Nat,i=.int .i64 k/\k<=r.k.z.size/\Hid (∀ j,j < k->Z j=0/\Y j=0/\∀ l,l < r.d.z[j]!.z.size->r.d.z[j]!.z[l]!.2<=99999)/\Hid (BoxW w #[.int .i64 r.n,.int .i64 r.f,.int .i64 r.self,.int .i64 r.clock,.int .i64 r.seq,.int .i64 r.floor,.int .i64 r.ticks,.slice r.e.A r.e.z.size r.e.c,.slice r.o.A r.o.z.size r.o.c,.slice r.k.A r.k.z.size r.k.c,.slice r.m.A r.m.z.size r.m.c,.slice r.fr.A r.fr.z.size r.fr.c,.slice r.d.A r.d.z.size r.d.c,.int .i64 r.lt,.int .i64 r.lid,.int .i64 r.count,.slice r.it.A r.it.z.size r.it.c,.slice r.ss.A r.ss.z.size r.ss.c] wr)) (fun i _=>r.k.z.size - (intOf i).toNat)
   case atStart=>exact ⟨0,rfl,vaj _,hI (fun j F=>absurd F jo),d⟩
   case round =>
    clear z c7 d hk s e8;obtain ⟨k,rfl,hk,n,d⟩:=hrel;obtain ⟨w0,rfl⟩:∃ W:World,W=wr:=⟨_,rfl⟩
    have z:=d.out.at_ 0;by_cases s:k < r.k.z.size
    .have c9:=d.out.at_ 9
     have o:=d.out.at_ 12;have kz:(k:Int) < (r.k.z.size:Int):=by omega
     have kn:(k:Int) < r.n:=by have:=X.out;omega
     have a9:k < r.d.z.size:=by have:=X.out;have:=f0.out;omega
     have kd:(k:Int) < (r.d.z.size:Int):=by omega
     obtain ⟨b,g1,C,f8,f⟩:=(d4.out.below d.out.b).at_ (i:=k) jo;have e0:=f 0 jo;have e1:=f 1 jo;have e2:=f 2 jo;obtain ⟨b2,E,a4,g,f2⟩:=(d2.out.below d.out.b).at_ (i:=k) jo;have K:=f2 0 jo;have g:=vad g d.out.b.size;have U:=hI a4;rw [C] at c9;rw [a4] at o;have A:=hI (fun W c=>b7.out k s W c);have V:=hI (fun W c=>b6.out k a9 W c);have d1:=hI (d5.out k a9);have f9:=d6.out k a9;obtain ⟨y,hy⟩:∃ y,r.k.z[k]! = y:=⟨_,rfl⟩
     obtain ⟨u,hu⟩:∃ u,r.d.z[k]! = u:=⟨_,rfl⟩
     obtain ⟨q1,b4⟩:∃ q,Z k=q:=⟨_,rfl⟩
     obtain ⟨q2,b5⟩:∃ q,Y k=q:=⟨_,rfl⟩
     have HU:=hI hu;have c1:=hI b4;have d0:=hI b5;rw [hy,b4] at A;rw [hu,b5] at V;rw [hu] at K d1 f9;rw [hy] at e0 e1 e2;clear f f2 C a4 hy hu b4 b5;simp only [vak,vcq,qav,encW,RW.v,vac,vaf] at e0 e1 e2 K A;by_cases L:q1=0
     .subst L
      by_cases M:q2=0
      .subst M
       go_wp2_with (first
        | (go_at_call 92;refine (A.out _ d.out.b).mono ?_;rintro _ w1 ⟨rfl,c⟩;have d:=hI (d.out.next c);have K:=(c.cell (p:=⟨b2,E + k,none⟩) g).trans K;have g:=vad g c.size;clear c;have o:=d.out.at_ 12;rw [U.out] at o)
        | (go_at_call 118;refine (V.out _ d.out.b).mono ?_;rintro _ w2 ⟨rfl,c⟩;have d:=hI (d.out.next c);have K:=(c.cell (p:=⟨b2,E + k,none⟩) g).trans K;have g:=vad g c.size;clear c;have o:=d.out.at_ 12;rw [U.out] at o))
       have g3:=d.out.lt
       go_loop [10] (fun l=>∃ m:Nat,l=.int .i64 m/\m<=u.z.size/\Hid (∀ l,l < m->u.z[l]!.2<=99999)) (fun l=>u.z.size - (intOf l).toNat)
       case atStart=>exact ⟨0,rfl,vaj _,hI (fun j F=>absurd F jo)⟩
       case round =>
        obtain ⟨m,rfl,hm,a7⟩:=hrel;by_cases h3:m < u.z.size
        .have mz:(m:Int) < (u.z.size:Int):=by omega
         obtain ⟨b3,g6,e6,g2,f3⟩:=(d1.out.below d.out.b).at_ (i:=m) jo;have i1:=f3 1 jo;rw [e6] at K;obtain ⟨v,hv⟩:∃ v,u.z[m]! = v:=⟨_,rfl⟩
         have HV:=hI hv;rw [hv] at i1;clear f3 e6 hv;simp only [encR,vac,vaf] at i1;go_wp2
         .go_ret
          refine ⟨qag (B.out (fun h=>?_)).symm,d.out.b⟩
          have:=(h.2 k s).2.2 m (by rw [HU.out];omega)
          rw [HU.out,HV.out] at this;omega
         go_round
         case rel =>
          refine ⟨m + 1,by go_num,by omega,hI (fun j F=>?_)⟩;rcases val j m with h | h
          .exact a7.out j h
          obtain rfl:j=m:=by omega
          rw [HV.out];omega
         case measure=>simp [intOf];omega
        have g5:decide ((m:Int) < (u.z.size:Int))=false:=by simp;omega
        have f1:Hid (Z k=0/\Y k=0/\∀ l,l < r.d.z[k]!.z.size->r.d.z[k]!.z[l]!.2<=99999):=⟨c1.out,d0.out,fun l hl=>by rw [HU.out] at hl |-;exact a7.out l jo⟩
        clear a7;go_wp2;go_roundw
        case rel =>
         refine ⟨k + 1,by go_num,by omega,hI (fun j F=>?_),d⟩;rcases val j k with h | h
         .exact n.out j h
         obtain rfl:j=k:=by omega
         exact f1.out
        case measure=>simp [intOf];omega
      have g9:(q2 != 0)=true:=bne_iff_ne.2 M;have HF:Hid (x=2):=hI (B.out fun h=>M (by have:=(h.2 k s).2.1;rw [d0.out] at this;exact this));clear M
      go_wp2_with (first
       | (go_at_call 92;refine (A.out _ d.out.b).mono ?_;rintro _ w1 ⟨rfl,c⟩;have d:=hI (d.out.next c);have K:=(c.cell (p:=⟨b2,E + k,none⟩) g).trans K;have g:=vad g c.size;clear c;have o:=d.out.at_ 12;rw [U.out] at o)
       | (go_at_call 118;refine (V.out _ d.out.b).mono ?_;rintro _ w2 ⟨rfl,c⟩;have d:=hI (d.out.next c);clear c))
      go_ret;exact ⟨qag HF.out.symm,d.out.b⟩
     have g8:(q1 != 0)=true:=bne_iff_ne.2 L;have HF:Hid (x=2):=hI (B.out fun h=>L (by have:=(h.2 k s).1;rw [c1.out] at this;exact this));clear L;go_wp2_with (go_at_call 92;refine (A.out _ d.out.b).mono ?_;rintro _ w1 ⟨rfl,c⟩;have d:=hI (d.out.next c);clear c);go_ret;exact ⟨qag HF.out.symm,d.out.b⟩
    have g4:decide ((k:Int) < r.n)=false:=by have:=X.out;simp;omega
    have f6:Hid (RckB r Z Y):=⟨b8.out,fun j F=>n.out j jo⟩
    have h0:=d.out.at_ 13;have h2:=d.out.at_ 14;have z0:=qtb r.lid;clear s n;go_wp2_with (go_at_call 117;refine (qdu _ _).mono ?_;rintro _ _ ⟨rfl,rfl⟩)
    all_goals
     go_ret;refine ⟨qag ?_,d.out.b⟩
     first
      | (refine (HY.out f5.out f6.out ?_).symm
         simp only [RckC] at *
         grind)
      | (refine (b9.out (fun h=>?_)).symm
         simp only [RckC] at *
         grind)
 have f4:=hI (D C);have HF:=hI C;clear C D;go_in
 go_wp2_with (first
  | (go_at_call 59;refine (H1.out _ a.out.b).mono ?_;rintro _ w1 ⟨rfl,c⟩;have a:=hI (a.out.next c);clear c;have z:=a.out.at_ 0;have c2:=a.out.at_ 2;have c3:=a.out.at_ 3;have c4:=a.out.at_ 4;have c5:=a.out.at_ 5;have c6:=a.out.at_ 6;have c8:=a.out.at_ 8;have a3:=a.out.at_ 15)
  | (go_at_call 115;refine (Q.out _ a.out.b).mono ?_;rintro _ w2 ⟨rfl,c⟩;have a:=hI (a.out.next c);clear c;have z:=a.out.at_ 0;have c4:=a.out.at_ 4;have c6:=a.out.at_ 6;have a3:=a.out.at_ 15;have c7:=a.out.at_ 7)
  | (go_at_call 116;refine (T.out _ a.out.b).mono ?_;rintro _ w3 ⟨rfl,c⟩;have a:=hI (a.out.next c);clear c;have z:=a.out.at_ 0;have c9:=a.out.at_ 9;have f7:=a.out.at_ 10)
  | (go_at_call 100;refine (S.out _ a.out.b).mono ?_;rintro _ w4 ⟨rfl,c⟩;have a:=hI (a.out.next c);clear c;have z:=a.out.at_ 0;have c11:=a.out.at_ 11)
  | (go_at_call 101;refine (R.out _ a.out.b).mono ?_;rintro _ w5 ⟨rfl,c⟩;have a:=hI (a.out.next c);clear c;have z:=a.out.at_ 0;have o:=a.out.at_ 12))
 all_goals first
  | (go_ret
     exact ⟨qag f4.out.symm,a.out.b⟩)
  | (exfalso
     have hh:=HF.out;clear H1 Q T S R b7 b6 d3 d4 d2 d5 d6 HY B b9 a;simp only [RckA] at hh
     grind)
