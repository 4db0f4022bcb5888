/- Texts that the law leans on. -/
import Derived.Test.YtdcfffhoajmafaaGreatQEnC
set_option maxRecDepth 100000
set_option maxHeartbeats 16000000
namespace Go.Proofs.YtdcfffhoajmafaaGreat
open Go.RowKit Go.Sort Go.Lib Go.Proofs.Tryz
def FewA (r:RP) (b21 b18:Bool):Prop:=b21=true/\r.o.z.size<=100/\r.k.z.size<=20/\b18=true/\r.fr.z.size<=20/\r.d.z.size<=20
theorem zav (r:RP) (w:World) (t s:Bool) (p:Nat->Bool) (x:Bool)
 (hK:RdK qav 3 w.heap.size w r.k.A r.k.z) (hD:RdK encW 1 w.heap.size w r.d.A r.d.z)
 (U:∀ W,Below w.heap.size w W->Calls prog 20 #[.slice r.e.A r.e.z.size r.e.c] W fun e N=>e=.returned (.bool t)/\Below W.heap.size W N)
 (T:∀ W,Below w.heap.size w W->Calls prog 21 #[.slice r.m.A r.m.z.size r.m.c] W fun e N=>e=.returned (.bool s)/\Below W.heap.size W N)
 (S:∀ i,i < r.k.z.size->∀ W,Below w.heap.size w W->Calls prog 22 #[.agg (qav r.k.z[i]!).toArray] W fun e N=>e=.returned (.bool (p i))/\Below W.heap.size W N)
 (C:FewA r t s->(∀ i,i < r.k.z.size->p i=true)->(∀ i,i < r.d.z.size->r.d.z[i]!.z.size<=100)->x=decide (r.it.z.size<=60/\r.ss.z.size<=60)) (n:¬ FewA r t s->x=false) (A:¬ (∀ i,i < r.k.z.size->p i=true)->x=false) (B:¬ (∀ i,i < r.d.z.size->r.d.z[i]!.z.size<=100)->x=false) :
 Calls prog 6 #[.agg (encP r).toArray] w fun e N=>e=.returned (.bool x)/\Below w.heap.size w N:=by
 have F:=hI U;have E:=hI T;have D:=hI S;have J:=hI hK;have I:=hI hD;have Y:=hI C;have G:=hI A;have H:=hI B;have a:=hI (BoxW.init w (encP r).toArray 35);clear U T S hK hD C A B;simp only [encP] at a |-
 by_cases l:FewA r t s
 .have O:=hI l
  obtain ⟨rfl,zo,zk,rfl,zf,zd⟩:=l;have a7:(r.o.z.size:Int)<=100:=by omega
  have a6:(r.k.z.size:Int)<=20:=by omega
  have a5:(r.fr.z.size:Int)<=20:=by omega
  have a4:(r.d.z.size:Int)<=20:=by omega
  clear n;go_in
  go_wp2_with (first
   | (go_at_call 20;refine (F.out _ a.out.b).mono ?_;rintro _ w1 ⟨rfl,d⟩;have a:=hI (a.out.next d);clear d;have c8:=a.out.at_ 8;have K:=a.out.at_ 9;have Q:=a.out.at_ 10)
   | (go_at_call 21;refine (E.out _ a.out.b).mono ?_;rintro _ w2 ⟨rfl,d⟩;have a:=hI (a.out.next d);clear d;have K:=a.out.at_ 9;have c11:=a.out.at_ 11;have u:=a.out.at_ 12))
  clear c8 K Q c11 u
  go_loopw [3] (fun i wr=>∃ k:Nat,i=.int .i64 k/\k<=r.k.z.size/\Hid (∀ j,j < k->p j=true)/\Hid (BoxW w #[.int .i64 r.n,.int .i64 r.f,.int .i64 r.self,.int .i64 r.clock,.int .i64 r.seq,.int .i64 r.floor,.int .i64 r.ticks,.slice r.e.A r.e.z.size r.e.c,.slice r.o.A r.o.z.size r.o.c,.slice r.k.A r.k.z.size r.k.c,.slice r.m.A r.m.z.size r.m.c,.slice r.fr.A r.fr.z.size r.fr.c,.slice r.d.A r.d.z.size r.d.c,.int .i64 r.lt,.int .i64 r.lid,.int .i64 r.count,.slice r.it.A r.it.z.size r.it.c,.slice r.ss.A r.ss.z.size r.ss.c] wr)) (fun i _=>r.k.z.size - (intOf i).toNat)
  case atStart=>exact ⟨0,rfl,vaj _,hI (fun j L=>absurd L jo),a⟩
  case round =>
   clear a;obtain ⟨k,rfl,hk,c,g⟩:=hrel;have K:=g.out.at_ 9;by_cases m:k < r.k.z.size
   .have kz:(k:Int) < (r.k.z.size:Int):=by omega
    obtain ⟨b,a1,l,Z,f⟩:=(J.out.below g.out.b).at_ (i:=k) jo;have R:=f 0 jo;have e1:=f 1 jo;have e2:=f 2 jo;rw [l] at K;have o:=hI (fun W d=>D.out k m W d);obtain ⟨y,M⟩:∃ y,r.k.z[k]! = y:=⟨_,rfl⟩
    obtain ⟨q,hq⟩:∃ q,p k=q:=⟨_,rfl⟩
    have P:=hI hq;rw [M,hq] at o;rw [M] at R e1 e2;clear f l M hq;simp only [vak,qav,vac,vaf] at R e1 e2 o;cases q
    .go_wp2_with (go_at_call 22;refine (o.out _ g.out.b).mono ?_;rintro _ w1 ⟨rfl,d⟩;have g:=hI (g.out.next d);clear d)
     go_ret;refine ⟨qad (G.out fun h=>?_).symm,g.out.b⟩
     have:=h k m
     rw [P.out] at this;cases this
    go_wp2_with (go_at_call 22;refine (o.out _ g.out.b).mono ?_;rintro _ w1 ⟨rfl,d⟩;have g:=hI (g.out.next d);clear d);go_roundw
    case rel =>
     refine ⟨k + 1,by go_num,by omega,hI (fun j L=>?_),g⟩;rcases val j k with h | h
     .exact c.out j h
     obtain rfl:j=k:=by omega
     exact P.out
    case measure=>simp [intOf];omega
   have z:decide ((k:Int) < (r.k.z.size:Int))=false:=by simp;omega
   have v:Hid (∀ j,j < r.k.z.size->p j=true):=fun j L=>c.out j jo
   clear c;go_wp2;clear K hk m z;obtain ⟨w0,rfl⟩:∃ W:World,W=wr:=⟨_,rfl⟩
   go_loop [4] (fun i=>∃ k:Nat,i=.int .i64 k/\k<=r.d.z.size/\Hid (∀ j,j < k->r.d.z[j]!.z.size<=100)) (fun i=>r.d.z.size - (intOf i).toNat)
   case atStart=>exact ⟨0,rfl,vaj _,hI (fun j L=>absurd L jo)⟩
   case round =>
    obtain ⟨k,rfl,hk,c⟩:=hrel;have u:=g.out.at_ 12;by_cases m:k < r.d.z.size
    .have kz:(k:Int) < (r.d.z.size:Int):=by omega
     obtain ⟨b,a1,l,Z,f⟩:=(I.out.below g.out.b).at_ (i:=k) jo;have R:=f 0 jo;rw [l] at u;obtain ⟨y,M⟩:∃ y,r.d.z[k]! = y:=⟨_,rfl⟩
     have P:=hI M;rw [M] at R;clear f l M;simp only [vak,vcq,encW,RW.v,vac] at R;by_cases hz:y.z.size<=100
     .have a0:(y.z.size:Int)<=100:=by omega
      go_wp2;go_round
      case rel =>
       refine ⟨k + 1,by go_num,by omega,hI (fun j L=>?_)⟩;rcases val j k with h | h
       .exact c.out j h
       obtain rfl:j=k:=by omega
       rw [P.out];exact hz
      case measure=>simp [intOf];omega
     have a0:(100:Int) < (y.z.size:Int):=by omega
     go_wp2;go_ret;refine ⟨qad (H.out fun h=>?_).symm,g.out.b⟩
     have:=h k m
     rw [P.out] at this;exact hz this
    have z:decide ((k:Int) < (r.d.z.size:Int))=false:=by simp;omega
    have V:=hI (Y.out O.out v.out (fun j L=>c.out j jo));have a2:=g.out.at_ 16;have a3:=g.out.at_ 17;clear c;go_wp2
    all_goals
     go_ret;refine ⟨qad ?_,g.out.b⟩;rw [V.out];clear D J I Y G H a O g v
     grind
 have X:=hI (n l);have V:=hI l;clear l n;go_in
 go_wp2_with (first
  | (go_at_call 20;refine (F.out _ a.out.b).mono ?_;rintro _ w1 ⟨rfl,d⟩;have a:=hI (a.out.next d);clear d;have c8:=a.out.at_ 8;have K:=a.out.at_ 9;have Q:=a.out.at_ 10)
  | (go_at_call 21;refine (E.out _ a.out.b).mono ?_;rintro _ w2 ⟨rfl,d⟩;have a:=hI (a.out.next d);clear d;have K:=a.out.at_ 9;have c11:=a.out.at_ 11;have u:=a.out.at_ 12))
 all_goals first
  | (go_ret
     exact ⟨qad X.out.symm,a.out.b⟩)
  | (exfalso
     have hh:=V.out;clear F E D J I Y G H a;simp only [FewA] at hh
     grind)
