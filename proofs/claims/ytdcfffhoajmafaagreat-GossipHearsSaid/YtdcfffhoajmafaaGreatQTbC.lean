/- Texts that the law leans on. -/
import Derived.Test.YtdcfffhoajmafaaGreatQSortE
set_option maxRecDepth 100000
set_option maxHeartbeats 16000000
namespace Go.Proofs.YtdcfffhoajmafaaGreat
open Go.RowKit Go.Sort Go.Lib Go.Proofs.Tryz
theorem rFind_any (A:Option Addr) (c:Nat) (d:Array EN) (n:Int) (w:World) (h:RdT0 w A d) (hs:d.size<=1000000) :
 Calls prog 106 #[.slice A d.size c,.int .i64 n] w fun e w'=>FindQ d n e/\Below w.heap.size w w':=by
 have B:=hI h;clear h;have g:=hI (vaw w (.cells #[.int .i64 0,.int .i64 0,.int .i64 0,.int .i64 0,.int .i64 0,.int .i64 0,.int .i64 0,.int .i64 0,.string ⟨#[]⟩,.slice none 0 0] 58));have r:=hI (bel1 w (.cells #[.int .i64 0,.int .i64 0,.int .i64 0,.int .i64 0,.int .i64 0,.int .i64 0,.int .i64 0,.int .i64 0,.string ⟨#[]⟩,.slice none 0 0] 58));have y:w.heap.size < (w.alloc (.cells #[.int .i64 0,.int .i64 0,.int .i64 0,.int .i64 0,.int .i64 0,.int .i64 0,.int .i64 0,.int .i64 0,.string ⟨#[]⟩,.slice none 0 0] 58)).heap.size:=by simp
 go_in;go_wp2;generalize w.alloc (.cells #[.int .i64 0,.int .i64 0,.int .i64 0,.int .i64 0,.int .i64 0,.int .i64 0,.int .i64 0,.int .i64 0,.string ⟨#[]⟩,.slice none 0 0] 58)=w1 at g r y |-
 go_loopw [6] (fun i wr=>∃ k:Nat,i=.int .i64 k/\k<=d.size/\Hid (∀ j,j < k->d[j]!.id≠n)/\Hid (wr=w1)) (fun i _=>d.size - (intOf i).toNat)
 case atStart=>exact ⟨0,rfl,vaj _,hI (fun j t=>absurd t jo),rfl⟩
 case round =>
  obtain ⟨k,rfl,hk,l,z⟩:=hrel;obtain rfl:=z.out;have Q:=blkC g.out 0;have R:=blkC g.out 1;have S:=blkC g.out 2;have T:=blkC g.out 3;have U:=blkC g.out 4;have V:=blkC g.out 5;have X:=blkC g.out 6;have Y:=blkC g.out 7;have Z:=blkC g.out 8;have z9:=blkC g.out 9;have fz:=blkF g.out;by_cases u:k < d.size
  .have kz:(k:Int) < (d.size:Int):=by omega
   obtain ⟨b,a1,rfl,N,f0⟩:=B.out.rd.at_ (i:=k) jo;obtain ⟨_,_,s,a0,f⟩:=(B.out.below r.out).rd.at_ (i:=k) jo;injection s with s
   injection s with eb eo
   subst eb eo;have C:=f 0 jo;have D:=f 1 jo;have E:=f 2 jo;have F:=f 3 jo;have G:=f 4 jo;have H:=f 5 jo;have I:=f 6 jo;have J:=f 7 jo;have K:=f 8 jo;have L:=f 9 jo;have o:Hid (d[k]!.id=n->FindR d n (d[k]!,true)):=fun h=>Or.inl ⟨k,u,rfl,h,l.out⟩
   have p:Hid (¬ d[k]!.id=n->∀ j,j < k + 1->d[j]!.id≠n):=fun h j t=>by
    rcases val j k with M | M
    .exact l.out j M
    obtain rfl:j=k:=by omega
    exact h
   obtain ⟨x,P⟩:∃ x,d[k]! = x:=⟨_,rfl⟩
   rw [P] at C D E F G H I J K L o p;clear f f0 P;simp only [vak,encE,vac,vaf] at C D E F G H I J K L;by_cases a:x.id=n
   .have q:(x.id == n)=true:=by simpa using a
    have m:=hI (o.out a);clear a;go_wp2;refine vau (v:=.tuple #[.agg #[.int .i64 x.id,.int .i64 x.ph,.int .i64 x.qu,.int .i64 x.t,.int .i64 x.bal,.int .i64 x.abal,.int .i64 x.seen,.int .i64 x.age,.string x.pay,.slice x.A x.z.size x.c],.bool true]) (by simp [results,results106,go_sem,Q,R,S,T,U,V,X,Y,Z,z9]) rfl ⟨⟨(x,true),rfl,m.out⟩,?_⟩;exact ((((((((((r.out.setCell (by first | omega | simp) _).setCell (by first | omega | simp) _).setCell (by first | omega | simp) _).setCell (by first | omega | simp) _).setCell (by first | omega | simp) _).setCell (by first | omega | simp) _).setCell (by first | omega | simp) _).setCell (by first | omega | simp) _).setCell (by first | omega | simp) _).setCell (by first | omega | simp) _)
   have q:(x.id == n)=false:=by simpa using a
   have m:=hI (p.out a);clear a;go_wp2;go_roundw
   case rel=>exact ⟨k + 1,by go_num,by omega,m,by first | exact hI trivial | exact hI rfl⟩
   case measure=>simp [intOf];omega
  have O:decide ((k:Int) < (d.size:Int))=false:=by simp;omega
  have m:Hid (FindR d n (default,false)):=Or.inr ⟨rfl,fun j t=>l.out j jo⟩;go_wp2;refine vau (v:=.tuple #[.agg #[.int .i64 0,.int .i64 0,.int .i64 0,.int .i64 0,.int .i64 0,.int .i64 0,.int .i64 0,.int .i64 0,.string ⟨#[]⟩,.slice none 0 0],.bool false]) (by simp [results,results106,go_sem,Q,R,S,T,U,V,X,Y,Z,z9]) rfl ⟨⟨(default,false),rfl,m.out⟩,?_⟩;exact ((((((((((r.out.setCell (by first | omega | simp) _).setCell (by first | omega | simp) _).setCell (by first | omega | simp) _).setCell (by first | omega | simp) _).setCell (by first | omega | simp) _).setCell (by first | omega | simp) _).setCell (by first | omega | simp) _).setCell (by first | omega | simp) _).setCell (by first | omega | simp) _).setCell (by first | omega | simp) _)
def qnx (d1 d2:Array EN):Bool:=decide (d1.size=d2.size/\∀ i,i < d1.size->sameP d1[i]! d2[i]!)
theorem zbm (d:Array EN):qnx d d=true:=by unfold qnx;rw [vap];exact ⟨rfl,fun i _=>qkj _⟩
theorem sameT_no {a d2:Array EN} (k:Nat) (b:k < a.size) (h:decide (sameP a[k]! d2[k]!)=false):qnx a d2=false:=by
 unfold qnx;rw [vat] at h |-
 exact fun g=>h (g.2 k b)
theorem qvx (A1 A2:Option Addr) (c1 c2:Nat) (d d2:Array EN) (w:World) (h1:RdT w A1 d) (h2:RdT w A2 d2) :
 Calls prog 42 #[.slice A1 d.size c1,.slice A2 d2.size c2] w fun e w'=>e=.returned (.bool (qnx d d2))/\Below w.heap.size w w':=by
 have s:=hI h1;have u:=hI h2;clear h1 h2;by_cases C:d.size=d2.size
 .have Y:((d.size:Int) != (d2.size:Int))=false:=by simp [C]
  have HS:=hI C;have a1:d.size<=d2.size:=by omega
  have a2:d.size<=1000:=s.out.sz;clear C;go_in;go_wp2
  go_loopw [5] (fun i wr=>∃ k:Nat,i=.int .i64 k/\k<=d.size/\Hid (∀ j,j < k->sameP d[j]! d2[j]!)/\Hid (Below w.heap.size w wr)) (fun i _=>d.size - (intOf i).toNat)
  case atStart=>exact ⟨0,rfl,vaj _,hI (fun j hj=>absurd hj jo),hI (vag _ _)⟩
  case round =>
   obtain ⟨k,rfl,hk,t,z⟩:=hrel;by_cases v:k < d.size
   .have kz:(k:Int) < (d.size:Int):=by omega
    have a3:(k:Int) < (d2.size:Int):=by omega
    obtain ⟨m,o,rfl,b,f⟩:=(s.out.below z.out).rd.at_ (i:=k) jo;obtain ⟨n,r,rfl,c,l⟩:=(u.out.below z.out).rd.at_ (i:=k) jo;have D:=f 0 jo;have E:=f 1 jo;have F:=f 2 jo;have G:=f 3 jo;have H:=f 4 jo;have I:=f 5 jo;have J:=f 6 jo;have K:=f 7 jo;have L:=f 8 jo;have M:=f 9 jo;have N:=l 0 jo;have O:=l 1 jo;have P:=l 2 jo;have Q:=l 3 jo;have R:=l 4 jo;have S:=l 5 jo;have T:=l 6 jo;have U:=l 7 jo;have V:=l 8 jo;have X:=l 9 jo;have A:=hI (fun W (Y:Below wr.heap.size wr W)=>qtw d[k]! d2[k]! W ((s.out.below (qaa z.out Y)).el k v).zero ((u.out.below (qaa z.out Y)).el k jo).zero (by have:=(s.out.el k v).sz;omega) (by have:=(u.out.el k jo).sz;omega));obtain ⟨q,hq⟩:∃ q,decide (sameP d[k]! d2[k]!)=q:=⟨_,rfl⟩
    rw [hq] at A;have HQ:=hI hq;clear hq;obtain ⟨x,hx⟩:∃ x,d[k]! = x:=⟨_,rfl⟩
    obtain ⟨y,hy⟩:∃ y,d2[k]! = y:=⟨_,rfl⟩
    rw [hx] at D E F G H I J K L M A;rw [hy] at N O P Q R S T U V X A;clear f l hx hy;simp only [vak,encE,vac,vaf] at D E F G H I J K L M N O P Q R S T U V X A;have p0:=fun p:ExtW wr=>p.cell (a:=⟨m,o + k * 10,none⟩) b D
    have p1:=fun p:ExtW wr=>p.cell (a:=⟨m,o + k * 10 + 1,none⟩) b E
    have p2:=fun p:ExtW wr=>p.cell (a:=⟨m,o + k * 10 + 2,none⟩) b F
    have p3:=fun p:ExtW wr=>p.cell (a:=⟨m,o + k * 10 + 3,none⟩) b G
    have p4:=fun p:ExtW wr=>p.cell (a:=⟨m,o + k * 10 + 4,none⟩) b H
    have p5:=fun p:ExtW wr=>p.cell (a:=⟨m,o + k * 10 + 5,none⟩) b I
    have p6:=fun p:ExtW wr=>p.cell (a:=⟨m,o + k * 10 + 6,none⟩) b J
    have p7:=fun p:ExtW wr=>p.cell (a:=⟨m,o + k * 10 + 7,none⟩) b K
    have p8:=fun p:ExtW wr=>p.cell (a:=⟨m,o + k * 10 + 8,none⟩) b L
    have p9:=fun p:ExtW wr=>p.cell (a:=⟨m,o + k * 10 + 9,none⟩) b M
    have q0:=fun p:ExtW wr=>p.cell (a:=⟨n,r + k * 10,none⟩) c N
    have q1:=fun p:ExtW wr=>p.cell (a:=⟨n,r + k * 10 + 1,none⟩) c O
    have q2:=fun p:ExtW wr=>p.cell (a:=⟨n,r + k * 10 + 2,none⟩) c P
    have q3:=fun p:ExtW wr=>p.cell (a:=⟨n,r + k * 10 + 3,none⟩) c Q
    have q4:=fun p:ExtW wr=>p.cell (a:=⟨n,r + k * 10 + 4,none⟩) c R
    have q5:=fun p:ExtW wr=>p.cell (a:=⟨n,r + k * 10 + 5,none⟩) c S
    have q6:=fun p:ExtW wr=>p.cell (a:=⟨n,r + k * 10 + 6,none⟩) c T
    have q7:=fun p:ExtW wr=>p.cell (a:=⟨n,r + k * 10 + 7,none⟩) c U
    have q8:=fun p:ExtW wr=>p.cell (a:=⟨n,r + k * 10 + 8,none⟩) c V
    have q9:=fun p:ExtW wr=>p.cell (a:=⟨n,r + k * 10 + 9,none⟩) c X
    clear D E F G H I J K L M N O P Q R S T U V X;cases q
    all_goals
     go_wp2_with fail;refine wprX ?_
     repeat (first | go_big_quiet_step ((go_at_call 112;exact Calls.ext_of (A.out _ (ExtW.h _)))) | quiet_step (fail))
     refine wpQn fun w' B=>?_
     have HW:=hI (qaa z.out B);clear B p0 p1 p2 p3 p4 p5 p6 p7 p8 p9 q0 q1 q2 q3 q4 q5 q6 q7 q8 q9;go_wp2
     first
      | (go_roundw
         case rel =>
          refine ⟨k + 1,by go_num,by omega,hI (fun j hj=>?_),HW⟩;rcases val j k with h | h
          .exact t.out j h
          obtain rfl:j=k:=by omega
          exact vdm HQ.out
         case measure=>simp [intOf];omega)
      | (go_ret
         exact ⟨qad (sameT_no k v HQ.out).symm,HW.out⟩)
   have a0:decide ((k:Int) < (d.size:Int))=false:=by simp;omega
   have Z:Hid (qnx d d2=true):=by
    show _=_;unfold qnx;rw [vap];exact ⟨HS.out,fun i hi=>t.out i jo⟩
   go_wp2;go_ret;exact ⟨qad Z.out.symm,z.out⟩
 have Y:((d.size:Int) != (d2.size:Int))=true:=by simp;omega
 have Z:Hid (qnx d d2=false):=by
  show _=_;unfold qnx;rw [vat];exact fun g=>C g.1
 clear C;go_in;go_wp2;go_ret;exact ⟨qad Z.out.symm,vag _ _⟩
