/- Texts that the law leans on. -/
import Derived.Deep.CutRange
import Derived.Test.YtdcfffhoajmafaaGreatQRead
set_option maxRecDepth 100000
set_option maxHeartbeats 8000000
namespace Go.Proofs.YtdcfffhoajmafaaGreat
open Go.RowKit Go.Sort Go.Lib Go.Proofs.Tryz
theorem beqI_E (a b:Int):(a == b)=decide (a=b):=by by_cases h:a=b <;> simp [h]
theorem had_any (A:Option Addr) (c n:Nat) (z:Array AK) (q:AK) (w:World) (h:RdK encK 6 w.heap.size w A z) (hn:n<=z.size) (hs:z.size<=1000000) :
 Calls prog 233 #[.slice A n c,.agg (encK q).toArray] w fun e Y=>e=.returned (.bool (hadN z n q))/\Below w.heap.size w Y:=by
 have HR:=hI h;clear h;have a3:Hid (hadN z n q=hadN z n q):=rfl;have H:∀ W,Below (w.alloc (.cells (encK q).toArray 176)).heap.size (w.alloc (.cells (encK q).toArray 176)) W->∀ j,W.cell? ⟨w.heap.size,j,none⟩=(encK q).toArray[j]?:=fun W E j=>(E.cell (p:=⟨w.heap.size,j,none⟩) js).trans (qau w _ _ j)
 have u:=hI H;have l:=hI (bel1 w (.cells (encK q).toArray 176));have v:Hid ((w.alloc (.cells (encK q).toArray 176)).heap.size=w.heap.size + 1):=by show _=_;simp
 clear H;obtain ⟨d,o,m,t,g,O⟩:=q;simp only [encK] at u l v |-
 go_in;go_wp2;generalize w.alloc (.cells #[.int .i64 d,.int .i64 o,.int .i64 m,.int .i64 t,.int .i64 g,.int .i64 O] 176)=Z at u l v |-
 go_loopw [5] (fun i wr=>∃ k:Nat,i=.int .i64 k/\k<=n/\Hid (∀ j,j < k->qB z[j]! ⟨d,o,m,t,g,O⟩=false)/\Hid (Below Z.heap.size Z wr)) (fun i _=>n - (intOf i).toNat)
 case atStart=>exact ⟨0,rfl,vaj _,hI (fun j Q=>absurd Q jo),hI (vag _ _)⟩
 case round =>
  obtain ⟨k,rfl,hk,r,F⟩:=hrel;have s:=hI (l.out.trans (F.out.mono l.out.size));by_cases a4:k < n
  .have kz:(k:Int) < (n:Int):=by omega
   obtain ⟨b,D,rfl,P,f⟩:=(HR.out.below s.out).at_ (i:=k) jo;have y:b < wr.heap.size:=vad P s.out.size;have C:w.heap.size < wr.heap.size:=vad (by rw [v.out];omega) F.out.size;have I:=f 0 jo;have J:=f 1 jo;have K:=f 2 jo;have E:=u.out wr F.out;obtain ⟨x,R⟩:∃ x,z[k]! = x:=⟨_,rfl⟩
   rw [R] at I J K;have V:=hI R;simp only [vak,encK,vac,vaf] at I J K;have q0:=fun p:ExtW wr=>p.cell (a:=⟨b,D + k * 6,none⟩) y I
   have q1:=fun p:ExtW wr=>p.cell (a:=⟨b,D + k * 6 + 1,none⟩) y J
   have q2:=fun p:ExtW wr=>p.cell (a:=⟨b,D + k * 6 + 2,none⟩) y K
   have a0:=fun p:ExtW wr=>p.cell (a:=⟨w.heap.size,0,none⟩) C (E 0)
   have a1:=fun p:ExtW wr=>p.cell (a:=⟨w.heap.size,1,none⟩) C (E 1)
   have a2:=fun p:ExtW wr=>p.cell (a:=⟨w.heap.size,2,none⟩) C (E 2)
   have T:Hid (qB z[k]! ⟨d,o,m,t,g,O⟩=decide (x.kind=d/\x.frm=o/\x.bal=m)):=by show _=_;rw [V.out];rfl
   clear f I J K E R V;have B:(∃ L M N:Bool,(x.kind == d)=L/\(x.frm == o)=M/\(x.bal == m)=N):=⟨_,_,_,rfl,rfl,rfl⟩
   obtain ⟨L,M,N,h1,h2,h3⟩:=B;have S:Hid (qB z[k]! ⟨d,o,m,t,g,O⟩=(L && (M && N))):=by
    show _=_;rw [T.out,<-h1,<-h2,<-h3,Bool.decide_and,Bool.decide_and];simp only [beqI_E]
   clear T;cases L <;> cases M <;> cases N
   all_goals
    go_wp2_with fail;refine wprX ?_
    repeat (go_big_quiet_step (fail))
    refine wpQn fun Y G=>?_
    have U:=hI (F.out.trans (G.mono F.out.size));clear G q0 q1 q2 a0 a1 a2;go_wp2
    first
     | (go_roundw
        case rel =>
         refine ⟨k + 1,by go_num,by omega,hI (fun j Q=>?_),U⟩;rcases val j k with h | h
         .exact r.out j h
         obtain rfl:j=k:=by omega
         exact S.out
        case measure=>simp [intOf];omega)
     | (go_ret
        exact ⟨qad (qxk k jo S.out).symm,l.out.trans (U.out.mono l.out.size)⟩)
  have X:decide ((k:Int) < (n:Int))=false:=by simp;omega
  go_wp2;go_ret;exact ⟨qad (hadN_no fun j Q=>r.out j jo).symm,s.out⟩
def qod (z:Array AK):Bool:=(List.range z.size).all fun i=>ackB z[i]! && !hadN z i z[i]!
theorem qpl {z:Array AK} (i:Nat) (hi:i < z.size) (h:(ackB z[i]! && !hadN z i z[i]!)=false):qod z=false:=by
 unfold qod;rw [List.all_eq_false];exact ⟨i,vbv.2 hi,by rw [h];exact vex⟩
theorem qrc {z:Array AK} (h:∀ i,i < z.size->(ackB z[i]! && !hadN z i z[i]!)=true):qod z=true:=by
 unfold qod;rw [vcx];exact fun i a=>h i (vbv.1 a)
theorem acks_any (A:Option Addr) (c:Nat) (z:Array AK) (w:World) (h:RdK encK 6 w.heap.size w A z) (hc:z.size<=c) (hs:z.size<=1000) :
 Calls prog 237 #[.slice A z.size c] w fun e w'=>e=.returned (.bool (qod z && decide (z.size<=27)))/\Below w.heap.size w w':=by
 have O:=hI h;clear h;go_in;go_wp2
 go_loopw [8] (fun i wr=>∃ k:Nat,i=.int .i64 k/\k<=z.size/\Hid (∀ j,j < k->(ackB z[j]! && !hadN z j z[j]!)=true)/\Hid (Below w.heap.size w wr)) (fun i _=>z.size - (intOf i).toNat)
 case atStart=>exact ⟨0,rfl,vaj _,hI (fun j X=>absurd X jo),hI (vag _ _)⟩
 case round =>
  obtain ⟨k,rfl,hk,q,K⟩:=hrel;by_cases G:k < z.size
  .have kz:(k:Int) < (z.size:Int):=by omega
   obtain ⟨b,N,rfl,a6,f⟩:=(O.out.below K.out).at_ (i:=k) jo;have P:=f 0 jo;have Q:=f 1 jo;have R:=f 2 jo;have S:=f 3 jo;have T:=f 4 jo;have U:=f 5 jo;have H:=hI (fun W=>of_any z[k]! W);have y:=hI (fun W=>zaf z[k]! W);have C:=hI (fun W (I:Below w.heap.size w W)=>zah (some ⟨b,N,none⟩) c k z z[k]! W ((O.out.below I).mono I.size) jo jo);obtain ⟨V,s⟩:∃ g,ackB z[k]! = g:=⟨_,rfl⟩
   obtain ⟨g2,u⟩:∃ g,hadN z k z[k]! = g:=⟨_,rfl⟩
   rw [s] at y;rw [u] at C;have D:Hid ((ackB z[k]! && !hadN z k z[k]!)=(V && !g2)):=by show _=_;rw [s,u]
   clear s u;obtain ⟨x,Z⟩:∃ x,z[k]! = x:=⟨_,rfl⟩
   rw [Z] at P Q R S T U H y C;clear f Z;obtain ⟨m,o,n,t,l,J⟩:=x;simp only [encK,vak,vac,vaf] at P Q R S T U H y C;have kc:(k:Int)<=(c:Int):=by omega
   have d:=hI (fun W (I:Below (wr.alloc (.cells #[.int .i64 m,.int .i64 o,.int .i64 n,.int .i64 t,.int .i64 l,.int .i64 J] 176)).heap.size (wr.alloc (.cells #[.int .i64 m,.int .i64 o,.int .i64 n,.int .i64 t,.int .i64 l,.int .i64 J] 176)) W) (j:Nat)=>(I.cell (p:=⟨wr.heap.size,j,none⟩) js).trans (qau wr #[.int .i64 m,.int .i64 o,.int .i64 n,.int .i64 t,.int .i64 l,.int .i64 J] _ j));have M:=hI (qab K.out (.cells #[.int .i64 m,.int .i64 o,.int .i64 n,.int .i64 t,.int .i64 l,.int .i64 J] 176));go_wp2_with fail;refine (H.out _).mono ?_;rintro e v ⟨rfl,a⟩;have a0:=d.out v a 0;have a1:=d.out v a 1;have a2:=d.out v a 2;have a3:=d.out v a 3;have a4:=d.out v a 4;have a5:=d.out v a 5;have L:=hI a;clear a;go_wp2_with fail;refine (y.out _).mono ?_;rintro e w2 ⟨rfl,E⟩;have r:=hI (qaa M.out (qaa L.out E));clear E H y d;cases V
   .go_wp2
    go_ret;refine ⟨qad ?_,r.out⟩;rw [qpl k G (by rw [D.out];rfl)];rfl
   go_wp2_with fail;refine (C.out _ r.out).mono ?_;rintro e w3 ⟨rfl,F⟩;have B:=hI (qaa r.out F);clear F C;cases g2
   .go_wp2
    go_roundw
    case rel =>
     refine ⟨k + 1,by go_num,by omega,hI (fun j X=>?_),B⟩;rcases val j k with h | h
     .exact q.out j h
     obtain rfl:j=k:=by omega
     exact D.out
    case measure=>simp [intOf];omega
   go_wp2;go_ret;refine ⟨qad ?_,B.out⟩;rw [qpl k G (by rw [D.out];rfl)];rfl
  have Y:decide ((k:Int) < (z.size:Int))=false:=by simp;omega
  have D:Hid (qod z=true):=qrc fun i hi=>q.out i jo
  go_wp2;go_ret;refine ⟨qad ?_,K.out⟩;rw [D.out];simp <;> omega
def qoe (e:EN):Prop:=0<=e.t/\e.t<=1000000/\0<=e.bal/\e.bal<=1000000/\0<=e.abal/\e.abal<=e.bal/\0<=e.seen/\e.seen<=1000000/\0<=e.age/\e.age<=1000000
instance (e:EN):Decidable (qoe e):=by unfold qoe;infer_instance
def qlk (e:EN):Prop:=(((2<=e.ph/\e.ph<=4)\/e.ph=5\/e.ph=6\/0 < e.abal)↔0 < e.t)/\(0 < e.abal\/e.ph=5\/e.ph=6\/(0 < e.bal↔(e.ph=3\/e.ph=4)))
instance (e:EN):Decidable (qlk e):=by unfold qlk;infer_instance
def qrd (e:EN):Prop:=10<=e.id/\e.id<=999999/\e.id % 10≠0/\1<=e.ph/\e.ph<=6/\1<=e.qu/\e.qu<=511/\e.pay.size<=300
instance (e:EN):Decidable (qrd e):=by unfold qrd;infer_instance
def qgh (e:EN):Bool:=decide (qrd e) && decide (qoe e) && decide (qlk e) && (qod e.z && decide (e.z.size<=27)) && decide (5<=e.ph->e.z.size=0)
def enE (e:EN):Int:=if qgh e=true then 0 else 2
structure BoxW (w:World) (cs:Array Value) (W:World):Prop where
 b:Below w.heap.size w W
 lt:w.heap.size < W.heap.size
 at_:∀ j,W.cell? ⟨w.heap.size,j,none⟩=cs[j]?
theorem BoxW.init (w:World) (cs:Array Value) (t:TypeId):BoxW w cs (w.alloc (.cells cs t)):=⟨bel1 w _,by simp,fun j=>qau w cs t j⟩
theorem BoxW.next {w W W':World} {cs:Array Value} (h:BoxW w cs W) (a:Below W.heap.size W W'):BoxW w cs W' :=
 ⟨qaa h.b a,vad h.lt a.size,fun j=>(a.cell (p:=⟨w.heap.size,j,none⟩) h.lt).trans (h.at_ j)⟩
theorem qtv (id:Int):(qfi id != 0) = !decide (10<=id/\id<=999999/\id % 10≠0):=by
 unfold qfi;by_cases h:id < 10\/999999 < id\/id % 10=0
 .rw [vam h,vab jo];rfl
 rw [vao h,vah jo];rfl
section
variable (e:EN)
theorem nums_any (w:World):Calls prog 235 #[.agg (encE e).toArray] w fun r f=>r=.returned (.bool (decide (qoe e)))/\Below w.heap.size w f:=by
 have b:Below w.heap.size w (w.alloc (.cells (encE e).toArray 58)):=bel1 w _;obtain ⟨j,k,l,t,h,a,d,g,i,A,c,z⟩:=e;simp only [encE] at b |-
 go_in;go_wp2_with (go_at_call 248;refine (qpb _ _ _).mono ?_;rintro e f ⟨rfl,rfl⟩)
 all_goals
  go_ret;refine ⟨qff ?_,b⟩;simp only [qoe,withB,vap,vat,vey,false_iff] at *;omega
theorem told_any (w:World):Calls prog 236 #[.agg (encE e).toArray] w fun r a=>r=.returned (.bool (decide (qlk e)))/\Below w.heap.size w a:=by
 obtain ⟨i,j,k,t,g,b,d,f,h,A,c,z⟩:=e;simp only [encE];go_in;go_wp2_with (first | (go_at_call 269;refine (zae _ _).mono ?_;rintro e a ⟨rfl,rfl⟩) | (go_at_call 144;refine (qip _ _).mono ?_;rintro e a ⟨rfl,rfl⟩))
 all_goals
  go_ret;refine ⟨qff ?_,bel1 w _⟩;simp only [qlk,propB,qkb,vap,vat] at *
  grind
theorem qyq (w:World) (c:RdE w e) (i:e.z.size<=e.c):Calls prog 190 #[.agg (encE e).toArray] w fun r n=>r=.returned (.int .i64 (enE e))/\Below w.heap.size w n:=by
 have j:=hI (fun W (b:Below w.heap.size w W)=>acks_any e.A e.c e.z W (c.below b).rd i c.sz);have d:=hI (fun W=>nums_any e W);have f:=hI (fun W=>told_any e W);have a:=hI (BoxW.init w (encE e).toArray 58);have l:=qtv e.id;have k:=cntN_zero e.qu;have o:=hI c.pz;have m:(e.pay.size:Int)<=1000:=by have:=c.pz;omega
 clear c i;simp only [encE] at d f a |-
 go_in
 go_wp2_with (first
  | (go_at_call 61;refine (qku _ _).mono ?_;rintro _ _ ⟨rfl,rfl⟩)
  | (go_at_call 144;refine (qip _ _).mono ?_;rintro _ _ ⟨rfl,rfl⟩)
  | (go_at_call 130;refine (qdc _ _).mono ?_;rintro _ _ ⟨rfl,rfl⟩)
  | (go_at_call 234;refine (zaj _ _).mono ?_;rintro _ _ ⟨rfl,rfl⟩)
  | (go_at_call 235;refine (d.out _).mono ?_;rintro _ u ⟨rfl,b⟩;have a:=hI (a.out.next b);clear b;have p:=a.out.at_ 0;have g:=a.out.at_ 1;have q:=a.out.at_ 2;have s:=a.out.at_ 3;have c4:=a.out.at_ 4;have c5:=a.out.at_ 5;have t:=a.out.at_ 6;have c7:=a.out.at_ 7;have c8:=a.out.at_ 8;have h:=a.out.at_ 9)
  | (go_at_call 236;refine (f.out _).mono ?_;rintro _ v ⟨rfl,b⟩;have a:=hI (a.out.next b);clear b;have g:=a.out.at_ 1;have h:=a.out.at_ 9)
  | (go_at_call 237;refine (j.out _ a.out.b).mono ?_;rintro _ x ⟨rfl,b⟩;have a:=hI (a.out.next b);clear b;have g:=a.out.at_ 1;have h:=a.out.at_ 9))
 all_goals
  go_ret;refine ⟨qag ?_,a.out.b⟩;simp only [enE,qgh,qrd,qna,qkb,vap,vat] at *
  grind
end
theorem qyr (id:Int):(qat id == 0) = !decide (10<=id/\id<=999999/\id % 10≠0):=by
 unfold qat;by_cases h:id < 10\/999999 < id\/id % 10=0
 .rw [vam h,vab jo];rfl
 rw [vao h,vah jo];exact vch.2 jo
section
variable (e:EN)
theorem qmb:qgh e=true↔qrd e/\qoe e/\qlk e/\e.z.size<=27/\qod e.z=true/\(5<=e.ph->e.z.size=0):=by
 unfold qgh;simp only [vav,vap]
 constructor
 .rintro ⟨⟨⟨⟨a,b⟩,c⟩,d,f⟩,g⟩;exact ⟨a,b,c,f,d,g⟩
 rintro ⟨a,b,c,f,d,g⟩;exact ⟨⟨⟨⟨a,b⟩,c⟩,d,f⟩,g⟩
theorem qys (w:World) (hr:RdE w e) (Q:e.z.size<=e.c):Calls prog 188 #[.agg (encE e).toArray] w fun r w'=>r=.returned (.int .i64 (enE e))/\Below w.heap.size w w':=by
 have c:=hI (BoxW.init w (encE e).toArray 58);have d:=hI (fun W=>qdu e.id W);have z0:=qyr e.id;have B:=hI hr;have T:=hI Q;have a8:(e.pay.size:Int)<=1000:=by have:=hr.pz;omega
 have b0:(e.z.size:Int)<=1000:=by have:=hr.sz;omega
 clear hr Q;by_cases l:qrd e/\qoe e/\qlk e/\e.z.size<=27
 .have u:=hI l
  have t:Hid (enE e=if qod e.z=true/\(5<=e.ph->e.z.size=0) then 0 else 2):=by
   have hi:=qmb e;show _=_;unfold enE;by_cases Q:qod e.z=true/\(5<=e.ph->e.z.size=0)
   .rw [vam Q,vam (hi.2 ⟨l.1,l.2.1,l.2.2.1,l.2.2.2,Q⟩)]
   rw [vao Q,vao fun h=>Q (hi.1 h).2.2.2.2]
  clear l;generalize qat e.id=sf at z0 d;simp only [encE] at c |-
  go_in;go_wp2_with fail;refine (d.out _).mono ?_;rintro _ _ ⟨rfl,rfl⟩;generalize w.alloc (.cells #[.int .i64 e.id,.int .i64 e.ph,.int .i64 e.qu,.int .i64 e.t,.int .i64 e.bal,.int .i64 e.abal,.int .i64 e.seen,.int .i64 e.age,.string e.pay,.slice e.A e.z.size e.c] 58)=w0 at c |-
  have C:=c.out.at_ 1;have F:=c.out.at_ 2;have G:=c.out.at_ 3;have c4:=c.out.at_ 4;have c5:=c.out.at_ 5;have H:=c.out.at_ 6;have c7:=c.out.at_ 7;have c8:=c.out.at_ 8;have A:=c.out.at_ 9;obtain ⟨⟨d1,d2,d3,d4,d5,d6,d7,d8⟩,⟨d9,a3,I,J,a4,K,L,M,N,O⟩,_,P⟩:=u.out;have b1:(sf == 0)=false:=by rw [z0,vah ⟨d1,d2,d3⟩];rfl
  clear z0 d1 d2 d3;go_upto_region 6 with fail
  go_cut [107] from 96 to 107 (fun v wx=>v=.bool false/\wx=w0)
  case first =>
   have z:=hI u.out.2.2.1;clear d7 d8 K L M N O P I J;go_wp2
   all_goals first
    | (go_meet;exact ⟨rfl,rfl⟩)
    | (go_meet;refine ⟨congrArg Value.bool ?_,rfl⟩;have l:=z.out;clear c d B T u t z C F G c4 c5 H c7 c8 A;simp only [qlk] at * <;> grind)
    | (exfalso
       have l:=z.out;clear c d B T u t z C F G c4 c5 H c7 c8 A
       simp only [qlk] at * <;> grind)
  case rest =>
   obtain ⟨rfl,rfl⟩:=hcut;go_upto_region 8 with fail
   go_cut [135] from 108 to 135 (fun v wx=>v=.bool false/\wx=wc)
   case first =>
    have z:=hI u.out.2.2.1;clear d7 d8 K L M N O P I J;obtain ⟨X,h1⟩:∃ g,(e.abal == 0)=g:=⟨_,rfl⟩
    obtain ⟨g2,h2⟩:∃ g,(e.ph == 3)=g:=⟨_,rfl⟩
    obtain ⟨g3,h3⟩:∃ g,(e.ph == 4)=g:=⟨_,rfl⟩
    cases X <;> cases g2 <;> cases g3
    all_goals go_wp2
    all_goals first
     | (go_meet;exact ⟨rfl,rfl⟩)
     | (go_meet;refine ⟨congrArg Value.bool ?_,rfl⟩;have l:=z.out;clear c d B T u t z C F G c4 c5 H c7 c8 A;simp only [qlk] at * <;> grind)
     | (exfalso
        have l:=z.out;clear c d B T u t z C F G c4 c5 H c7 c8 A
        simp only [qlk] at * <;> grind)
   case rest =>
    obtain ⟨rfl,rfl⟩:=hcut;clear C F G c4 c5 H c7 c8 A d4 d5 d6 d7 d8 d9 a3 I J a4 K L M N O P;go_wp2
    go_loopw [5] (fun i wr=>∃ k:Nat,i=.int .i64 k/\k<=e.z.size/\Hid (0 < k->e.ph < 5)/\Hid (∀ j,j < k->(ackB e.z[j]! && !hadN e.z j e.z[j]!)=true)/\Hid (BoxW w #[.int .i64 e.id,.int .i64 e.ph,.int .i64 e.qu,.int .i64 e.t,.int .i64 e.bal,.int .i64 e.abal,.int .i64 e.seen,.int .i64 e.age,.string e.pay,.slice e.A e.z.size e.c] wr)) (fun i _=>e.z.size - (intOf i).toNat)
    case atStart=>exact ⟨0,rfl,vaj _,hI (fun h=>absurd h jo),hI (fun j hj=>absurd hj jo),c⟩
    case round =>
     obtain ⟨k,rfl,hk,a0,D,s⟩:=hrel;have Z:=s.out.lt;have C:=s.out.at_ 1;have A:=s.out.at_ 9;by_cases a6:k < e.z.size
     .have kz:(k:Int) < (e.z.size:Int):=by omega
      have kc:(k:Int)<=(e.c:Int):=by have:=T.out;omega
      have a1:=fun p:ExtW wr=>p.cell (a:=⟨w.heap.size,1,none⟩) Z (s.out.at_ 1)
      have a9:=fun p:ExtW wr=>p.cell (a:=⟨w.heap.size,9,none⟩) Z (s.out.at_ 9)
      obtain ⟨b,n,hA,m,f⟩:=(B.out.below s.out.b).rd.at_ (i:=k) jo;have V:=hI (fun p:ExtW wr=>(B.out.below (qaa s.out.b p.h)).rd);rw [hA] at a9 A;have e0:=fun p:ExtW wr=>p.cell (a:=⟨b,n + k * 6 + 0,none⟩) m (f 0 jo)
      have e1:=fun p:ExtW wr=>p.cell (a:=⟨b,n + k * 6 + 1,none⟩) m (f 1 jo)
      have e2:=fun p:ExtW wr=>p.cell (a:=⟨b,n + k * 6 + 2,none⟩) m (f 2 jo)
      have e3:=fun p:ExtW wr=>p.cell (a:=⟨b,n + k * 6 + 3,none⟩) m (f 3 jo)
      have e4:=fun p:ExtW wr=>p.cell (a:=⟨b,n + k * 6 + 4,none⟩) m (f 4 jo)
      have e5:=fun p:ExtW wr=>p.cell (a:=⟨b,n + k * 6 + 5,none⟩) m (f 5 jo)
      have y:=hI (fun W=>rAck_any e.z[k]! W);have o:=hI (fun p:ExtW wr=>had_any e.A e.c k e.z e.z[k]! p.to (V.out p) jo (jg B.out.sz));rw [hA] at o;obtain ⟨X,R⟩:∃ g,ackB e.z[k]! = g:=⟨_,rfl⟩
      obtain ⟨g2,S⟩:∃ g,hadN e.z k e.z[k]! = g:=⟨_,rfl⟩
      rw [R] at y;rw [S] at o;have HG:Hid ((ackB e.z[k]! && !hadN e.z k e.z[k]!)=(X && !g2)):=by show _=_;rw [R,S]
      clear R S;obtain ⟨x,hx⟩:∃ x,e.z[k]! = x:=⟨_,rfl⟩
      rw [hx] at e0 e1 e2 e3 e4 e5 y o;clear f hx hA V;simp only [encK,vak,vac,vaf] at e0 e1 e2 e3 e4 e5 y o;by_cases Y:5<=e.ph
      .have a5:decide (5<=e.ph)=true:=vah Y
       have U:Hid (enE e=2):=by show _=_;rw [t.out,vao];rintro ⟨_,h⟩;have:=h Y;omega
       clear e0 e1 e2 e3 e4 e5;go_wp2_with fail;refine wprX ?_
       repeat (go_big_quiet_step (fail))
       refine wpQn fun w' q=>?_
       have HW:=hI (s.out.next q);clear q a1 a9;go_wp2;go_ret;exact ⟨qag U.out.symm,HW.out.b⟩
      have a5:decide (5<=e.ph)=false:=vab Y;have U:Hid ((X && !g2)=false->enE e=2):=fun h=>by
       rw [t.out,vao];rintro ⟨h',_⟩;rw [qpl k a6 (by rw [HG.out];exact h)] at h';cases h'
      have E:e.ph < 5:=by omega
      have a2:=hI E;clear Y a0 E;cases X <;> cases g2
      all_goals
       go_wp2_with fail;refine wprX ?_
       repeat (first | go_big_quiet_step ((first | (go_at_call 232;exact Calls.ext_of (y.out _)) | (go_at_call 233;exact Calls.ext_of (o.out _)))) | quiet_step (fail))
       refine wpQn fun w' q=>?_
       have HW:=hI (s.out.next q);clear q a1 a9 e0 e1 e2 e3 e4 e5;go_wp2
       first
        | (go_ret
           exact ⟨qag (U.out rfl).symm,HW.out.b⟩)
        | (go_roundw
           case rel =>
            refine ⟨k + 1,by go_num,by omega,hI (fun _=>a2.out),hI (fun j hj=>?_),HW⟩;rcases val j k with h | h
            .exact D.out j h
            obtain rfl:j=k:=by omega
            exact HG.out
           case measure=>simp [intOf];omega)
     have a7:decide ((k:Int) < (e.z.size:Int))=false:=by simp;omega
     have h0:5<=e.ph->e.z.size=0:=fun Y=>by
      rcases vba k with h | h
      .omega
      have:=a0.out h;omega
     have U:Hid (enE e=0):=by
      show _=_;rw [t.out,vam ⟨qrc fun i hi=>D.out i jo,h0⟩]
     clear h0;go_wp2;go_ret;exact ⟨qag U.out.symm,s.out.b⟩
 have t:Hid (enE e=2):=by
  show _=_;unfold enE qgh;rw [vao];intro h;simp only [vav,vap] at h;exact l ⟨h.1.1.1.1,h.1.1.1.2,h.1.1.2,h.1.2.2⟩
 have u:=hI l;clear l;generalize qat e.id=sf at z0 d;simp only [encE] at c |-
 go_in;go_wp2_with fail;refine (d.out _).mono ?_;rintro _ _ ⟨rfl,rfl⟩;generalize w.alloc (.cells #[.int .i64 e.id,.int .i64 e.ph,.int .i64 e.qu,.int .i64 e.t,.int .i64 e.bal,.int .i64 e.abal,.int .i64 e.seen,.int .i64 e.age,.string e.pay,.slice e.A e.z.size e.c] 58)=w0 at c |-
 have C:=c.out.at_ 1;have F:=c.out.at_ 2;have G:=c.out.at_ 3;have c4:=c.out.at_ 4;have c5:=c.out.at_ 5;have H:=c.out.at_ 6;have c7:=c.out.at_ 7;have c8:=c.out.at_ 8;have A:=c.out.at_ 9;go_wp2
 all_goals first
  | (go_ret
     exact ⟨qag t.out.symm,c.out.b⟩)
  | (exfalso
     have l:=u.out;simp only [qrd,qoe,qlk] at *;clear c d B T u t C F G c4 c5 H c7 c8 A
     grind)
end
theorem ak_ext {x y:AK} (g:x.kind=y.kind) (h:x.frm=y.frm) (i:x.bal=y.bal) (j:x.t=y.t) (k:x.abal=y.abal) (l:x.ph=y.ph):x=y:=by
 obtain ⟨a,b,c,d,e,f⟩:=x;obtain ⟨m,n,o,p,q,r⟩:=y;simp only at g h i j k l;subst g h i j k l;rfl
instance:DecidableEq AK:=fun x y=>decidable_of_iff (x.kind=y.kind/\x.frm=y.frm/\x.bal=y.bal/\x.t=y.t/\x.abal=y.abal/\x.ph=y.ph) ⟨fun h=>ak_ext h.1 h.2.1 h.2.2.1 h.2.2.2.1 h.2.2.2.2.1 h.2.2.2.2.2,fun h=>by subst h;exact ⟨rfl,rfl,rfl,rfl,rfl,rfl⟩⟩
theorem arr_ext_E {α:Type} [Inhabited α] {a d2:Array α} (d:a.size=d2.size) (h:∀ j,j < a.size->a[j]! = d2[j]!):a=d2 :=
 Array.ext d fun t b c=>by have:=h t b;rwa [vae a t b,vae d2 t c] at this
theorem neK_run (x y:AK) (w:World):(binOp .neq 176 (.agg #[.int .i64 x.kind,.int .i64 x.frm,.int .i64 x.bal,.int .i64 x.t,.int .i64 x.abal,.int .i64 x.ph]) (.agg #[.int .i64 y.kind,.int .i64 y.frm,.int .i64 y.bal,.int .i64 y.t,.int .i64 y.abal,.int .i64 y.ph])).run prog w=.ok (.bool (!decide (x=y))) w:=by
 have g:prog.underlying 176 = some (.struct (prog.fieldsOf 176)):=by kernel_rfl
 have h:prog.stoodInHeld 176 = false:=by kernel_rfl
 have u3:=underlying3;rw [run_neq_struct,show (10000:Nat)=9999 + 1 from rfl,veg w 9999 176 _ _ g h];simp only [Program.fieldsOf,underlying176];go_simp;obtain ⟨a,b,c,d,e,f⟩:=x;obtain ⟨i,j,k,l,m,n⟩:=y;simp only [AK.mk.injEq]
 grind
theorem SameAcks0 (F G:Option Addr) (c1 c2:Nat) (a d2:Array AK) (L M:Nat) (w:World) (N:RdK encK 6 L w F a) (O:RdK encK 6 M w G d2) (_hn:a.size<=100000000) (X:d2.size<=100000000) :
 Calls prog 187 #[.slice F a.size c1,.slice G d2.size c2] w fun e S=>e=.returned (.bool (decide (a=d2)))/\∃ n,S=w.drewN n:=by
 by_cases C:a.size=d2.size
 .have P:((a.size:Int) != (d2.size:Int))=false:=by simp [C]
  have D:=hI C;have Q:a.size<=d2.size:=by omega
  clear C;go_in;go_wp2
  go_loopw [5] (fun i wr=>∃ k n:Nat,k<=a.size/\i=.int .i64 k/\wr=w.drewN n/\∀ j,j < k->a[j]! = d2[j]!) (fun i _=>a.size - (intOf i).toNat)
  case atStart=>exact ⟨0,0,vaj _,rfl,rfl,fun j l=>absurd l jo⟩
  case round =>
   obtain ⟨k,n,V,rfl,rfl,l⟩:=hrel;have H:=hI l;clear l;by_cases E:k < a.size
   .obtain ⟨T,Z,rfl,_,f⟩:=N.at_ E
    obtain ⟨U,o2,rfl,_,g⟩:=O.at_ (i:=k) jo;have p:=f 0 jo;have e11:=f 1 jo;have e12:=f 2 jo;have q:=f 3 jo;have r:=f 4 jo;have s:=f 5 jo;have t:=g 0 jo;have e21:=g 1 jo;have u:=g 2 jo;have v:=g 3 jo;have z:=g 4 jo;have A:=g 5 jo;have c:=neK_run a[k]! d2[k]!;generalize J:a[k]! = x at p e11 e12 q r s c;generalize K:d2[k]! = y at t e21 u v z A c;have m:=hI J;clear J;have o:=hI K;clear K;simp only [vak,encK,vac,vaf] at p e11 e12 q r s t e21 u v z A;clear f g;have Y:(k:Int) < (a.size:Int):=by omega
    have R:(k:Int) < (d2.size:Int):=by omega
    by_cases b:x=y
    .have B:decide (x=y)=true:=by simp [b]
     have d:=hI b;clear b;rw [B] at c;clear B;go_wp2;go_quiet (fail);go_wp2;go_roundw
     case rel=>exact ⟨k + 1,_,by omega,by go_num,rfl,fun j l=>by
      rcases val j k with h | h
      .exact H.out j h
      obtain rfl:j=k:=by omega
      rw [m.out,o.out];exact d.out⟩
     case measure=>simp [intOf];omega
    have B:decide (x=y)=false:=by simp [b]
    have d:=hI b;clear b;rw [B] at c;clear B;go_wp2;go_quiet (fail);go_wp2;go_ret;exact ⟨qad (by symm;rw [vat];rintro rfl;exact d.out (by rw [<-m.out,<-o.out])),_,vcs _ _ _⟩
   have I:decide ((k:Int) < (a.size:Int))=false:=by simp;omega
   go_wp2;go_ret;exact ⟨qad (by symm;rw [vbj];exact arr_ext_E D.out fun j l=>H.out j jo),n,rfl⟩
 have P:((a.size:Int) != (d2.size:Int))=true:=by simp;omega
 have D:=hI C;clear C;go_in;go_wp2;go_ret;exact ⟨qad (by symm;rw [vat];rintro rfl;exact D.out rfl),0,rfl⟩
theorem qre (b c:Option Addr) (c1 c2:Nat) (a d2:Array AK) (d f:Nat) (w:World) (g:RdK encK 6 d w b a) (h:RdK encK 6 f w c d2) (k:a.size<=100000000) (j:d2.size<=100000000) :
 Calls prog 187 #[.slice b a.size c1,.slice c d2.size c2] w fun e m=>e=.returned (.bool (decide (a=d2)))/\Below w.heap.size w m :=
 (SameAcks0 b c c1 c2 a d2 d f w g h k j).mono fun _ _ ⟨i,n,l⟩=>⟨i,by rw [l];exact qaj (vag _ _) n⟩
theorem str_eq_E {a b:ByteArray}:(a.toList == b.toList)=decide (a=b):=by
 by_cases h:a=b
 .subst h;simp
 have:a.toList≠b.toList:=fun e=>h (by
  rw [vdj,vdj] at e
  exact ByteArray.ext (Array.ext' e))
 simp [h,this]
def sameP (a b:EN):Prop:=a.id=b.id/\a.ph=b.ph/\a.qu=b.qu/\a.t=b.t/\a.bal=b.bal/\a.abal=b.abal/\a.seen=b.seen/\a.age=b.age/\a.pay=b.pay/\a.z=b.z
instance (a b:EN):Decidable (sameP a b):=by unfold sameP;infer_instance
theorem qkj (a:EN):sameP a a:=⟨rfl,rfl,rfl,rfl,rfl,rfl,rfl,rfl,rfl,rfl⟩
section
variable (a b:EN)
theorem qtw (w:World) (i:RdE0 w a) (j:RdE0 w b) (n:a.z.size<=100000) (o:b.z.size<=100000) :
 Calls prog 112 #[.agg (encE a).toArray,.agg (encE b).toArray] w fun r m=>r=.returned (.bool (decide (sameP a b)))/\Below w.heap.size w m:=by
 have k:=hI (fun W (h:Below w.heap.size w W)=>qre a.A b.A a.c b.c a.z b.z _ _ W (i.below h).rd (j.below h).rd jo jo);have d:Hid (∀ f g,Below w.heap.size w ((w.alloc f).alloc g)):=hI (fun f g=>qab (bel1 w f) g);have l:=@str_eq_E a.pay b.pay;clear i j;simp only [encE];go_in;go_wp2_with (go_at_call 187;refine (k.out _ (d.out _ _)).mono ?_;rintro _ p ⟨rfl,c⟩;have e:=hI (qaa (d.out _ _) c);clear c)
 all_goals
  go_ret;refine ⟨qff ?_,by first | exact e.out | exact d.out _ _⟩;simp only [sameP,vap] at *
  grind
end
def fewP (e:EN):Prop:=e.z.size<=100/\e.pay.size<=1000
instance (e:EN):Decidable (fewP e):=by unfold fewP;infer_instance
theorem few20_any (e:EN) (w:World):Calls prog 58 #[.agg (encE e).toArray] w fun r c=>r=.returned (.bool (decide (fewP e)))/\Below w.heap.size w c:=by
 have b:Hid (∀ a,Below w.heap.size w (w.alloc a)):=hI (fun a=>bel1 w a);simp only [encE];go_in;go_wp2
 all_goals
  go_ret;refine ⟨qff ?_,b.out _⟩;simp only [fewP,vap] at *
  grind
structure RdT0 (w:World) (A:Option Addr) (d:Array EN):Prop where
 rd:RdK encE 10 w.heap.size w A d
 el:∀ i,i < d.size->RdE0 w d[i]!
theorem RdT0.below {w w':World} {A:Option Addr} {d:Array EN} (h:RdT0 w A d) (a:Below w.heap.size w w'):RdT0 w' A d:=⟨(h.rd.below a).mono a.size,fun i b=>(h.el i b).below a⟩
structure RdT (w:World) (A:Option Addr) (d:Array EN):Prop where
 rd:RdK encE 10 w.heap.size w A d
 el:∀ i,i < d.size->RdE w d[i]!
 sz:d.size<=1000
theorem RdT.below {w w':World} {A:Option Addr} {d:Array EN} (h:RdT w A d) (a:Below w.heap.size w w'):RdT w' A d:=⟨(h.rd.below a).mono a.size,fun i b=>(h.el i b).below a,h.sz⟩
theorem RdE.zero {w:World} {e:EN} (h:RdE w e):RdE0 w e:=⟨h.rd,h.cz⟩
theorem RdT.zero {w:World} {A:Option Addr} {d:Array EN} (h:RdT w A d):RdT0 w A d:=⟨h.rd,fun i a=>(h.el i a).zero⟩
def fewT (d:Array EN):Bool:=decide (d.size<=60) && (List.range d.size).all fun i=>decide (fewP d[i]!)
theorem qfz {d:Array EN}:fewT d=true↔d.size<=60/\∀ i,i < d.size->fewP d[i]!:=by
 unfold fewT;rw [vav,vap,vcx]
 constructor
 .rintro ⟨h,g⟩;exact ⟨h,fun i a=>vdm (g i (vbv.2 a))⟩
 rintro ⟨h,g⟩;exact ⟨h,fun i a=>vah (g i (vbv.1 a))⟩
theorem fewT_no {d:Array EN} (i:Nat) (hi:i < d.size) (h:decide (fewP d[i]!)=false):fewT d=false:=by
 rw [vbi];intro a
 have:=(qfz.1 a).2 i hi
 rw [vat] at h;exact h this
theorem RdT0.few {w:World} {A:Option Addr} {d:Array EN} (h:RdT0 w A d) (a:fewT d=true):RdT w A d :=
 ⟨h.rd,fun i b=>(h.el i b).few ((qfz.1 a).2 i b).1 ((qfz.1 a).2 i b).2,by have:=(qfz.1 a).1;omega⟩
theorem few21_any (A:Option Addr) (c:Nat) (d:Array EN) (w:World) (h:RdT0 w A d) :
 Calls prog 20 #[.slice A d.size c] w fun e s=>e=.returned (.bool (fewT d))/\Below w.heap.size w s:=by
 have K:=hI h;clear h;by_cases q:d.size<=60
 .have r:decide ((60:Int) < (d.size:Int))=false:=vab jo
  go_in;go_wp2
  go_loopw [3] (fun i wr=>∃ k:Nat,i=.int .i64 k/\k<=d.size/\Hid (∀ j,j < k->fewP d[j]!)/\Hid (Below w.heap.size w wr)) (fun i _=>d.size - (intOf i).toNat)
  case atStart=>exact ⟨0,rfl,vaj _,hI (fun j H=>absurd H jo),hI (vag _ _)⟩
  case round =>
   obtain ⟨k,rfl,P,a,n⟩:=hrel;by_cases p:k < d.size
   .have Q:(k:Int) < (d.size:Int):=by omega
    obtain ⟨b,N,rfl,L,f⟩:=(K.out.below n.out).rd.at_ (i:=k) jo;have u:=f 0 jo;have v:=f 1 jo;have y:=f 2 jo;have z:=f 3 jo;have B:=f 4 jo;have C:=f 5 jo;have D:=f 6 jo;have E:=f 7 jo;have F:=f 8 jo;have G:=f 9 jo;have m:=hI (fun W=>few20_any d[k]! W);obtain ⟨g,o⟩:∃ g,decide (fewP d[k]!)=g:=⟨_,rfl⟩
    rw [o] at m;have t:=hI o;clear o;generalize d[k]! = x at u v y z B C D E F G m;clear f;simp only [vak,encE,vac,vaf] at u v y z B C D E F G m;cases g
    .go_wp2_with (go_at_call 58;refine (m.out _).mono ?_;rintro e s ⟨rfl,l⟩)
     go_ret;exact ⟨qad (fewT_no k p t.out).symm,qaa n.out l⟩
    go_wp2_with (go_at_call 58;refine (m.out _).mono ?_;rintro e s ⟨rfl,l⟩);go_roundw
    case rel =>
     refine ⟨k + 1,by go_num,by omega,hI (fun j H=>?_),hI (qaa n.out l)⟩;rcases val j k with h | h
     .exact a.out j h
     obtain rfl:j=k:=by omega
     exact vdm t.out
    case measure=>simp [intOf];omega
   have I:decide ((k:Int) < (d.size:Int))=false:=by simp;omega
   go_wp2;go_ret;exact ⟨qad (qfz.2 ⟨q,fun i O=>a.out i jo⟩).symm,n.out⟩
 have r:decide ((60:Int) < (d.size:Int))=true:=vah jo;have J:Hid (fewT d=false):=by
  show _=_;rw [vbi];intro M;exact q (qfz.1 M).1
 clear q;go_in;go_wp2;go_ret;exact ⟨qad J.out.symm,vag _ _⟩
def atT (d:Array EN) (i:Nat):Bool:=qgh d[i]! && decide (0 < i->d[i - 1]!.id < d[i]!.id)
def chkT (d:Array EN):Bool:=decide (d.size<=40) && (List.range d.size).all fun i=>atT d i
def tabE (d:Array EN):Int:=if chkT d=true then 0 else 2
theorem qeo {d:Array EN}:chkT d=true↔d.size<=40/\∀ i,i < d.size->atT d i=true:=by
 unfold chkT;rw [vav,vap,vcx]
 constructor
 .rintro ⟨h,g⟩;exact ⟨h,fun i a=>g i (vbv.2 a)⟩
 rintro ⟨h,g⟩;exact ⟨h,fun i a=>g i (vbv.1 a)⟩
theorem qwc {d:Array EN} (h:d.size<=40) (g:∀ i,i < d.size->atT d i=true):tabE d=0:=by
 unfold tabE;rw [vam (qeo.2 ⟨h,g⟩)]
theorem qpm {d:Array EN} (i:Nat) (hi:i < d.size) (h:atT d i=false):tabE d=2:=by
 unfold tabE;rw [vao];intro a;rw [(qeo.1 a).2 i hi] at h;cases h
theorem qwd {d:Array EN} (h:¬ d.size<=40):tabE d=2:=by
 unfold tabE;rw [vao];intro a;exact h (qeo.1 a).1
theorem qwe (e:EN):(enE e != 0) = !qgh e:=by unfold enE;cases qgh e <;> rfl
theorem tabE_bool (d:Array EN):(tabE d != 0) = !chkT d:=by unfold tabE;cases chkT d <;> rfl
theorem qyt (A:Option Addr) (c:Nat) (d:Array EN) (w:World) (h:RdT w A d) :
 Calls prog 123 #[.slice A d.size c] w fun e P=>e=.returned (.int .i64 (tabE d))/\Below w.heap.size w P:=by
 have R:=hI h;clear h;by_cases hs:d.size<=40
 .have a3:decide ((40:Int) < (d.size:Int))=false:=vab jo
  go_in;go_wp2
  go_loopw [10] (fun i wr=>∃ k:Nat,i=.int .i64 k/\k<=d.size/\Hid (∀ j,j < k->atT d j=true)/\Hid (Below w.heap.size w wr)) (fun i _=>d.size - (intOf i).toNat)
  case atStart=>exact ⟨0,rfl,vaj _,hI (fun j hj=>absurd hj jo),hI (vag _ _)⟩
  case round =>
   obtain ⟨k,rfl,hk,t,F⟩:=hrel;by_cases v:k < d.size
   .have kz:(k:Int) < (d.size:Int):=by omega
    obtain ⟨b,E,rfl,a1,f⟩:=(R.out.below F.out).rd.at_ (i:=k) jo;have e0:=f 0 jo;have e1:=f 1 jo;have C:=f 2 jo;have e3:=f 3 jo;have e4:=f 4 jo;have e5:=f 5 jo;have e6:=f 6 jo;have e7:=f 7 jo;have e8:=f 8 jo;have e9:=f 9 jo;have s:=hI (fun W (K:Below wr.heap.size wr W)=>qyq d[k]! W ((R.out.below (qaa F.out K)).el k v) ((R.out.below (qaa F.out K)).el k v).cz);have D:=qwe d[k]!;have n:Hid (0 < k->wr.cell? ⟨b,E + (k - 1) * 10,none⟩=some (.int .i64 d[k - 1]!.id)):=fun G=>by
     obtain ⟨J,a6,C,_,f2⟩:=(R.out.below F.out).rd.at_ (i:=k - 1) jo;injection C with C
     injection C with eb eo
     subst eb eo
     have:=f2 0 jo
     simp only [encE,vak,vac] at this;exact this
    have o:Hid (atT d k=(qgh d[k]! && decide (0 < k->d[k - 1]!.id < d[k]!.id))):=rfl;generalize d[k - 1]!.id=y at n o;obtain ⟨x,hx⟩:∃ x,d[k]! = x:=⟨_,rfl⟩
    rw [hx] at e0 e1 C e3 e4 e5 e6 e7 e8 e9 s D o;clear f hx;obtain ⟨g,L⟩:∃ g,qgh x=g:=⟨_,rfl⟩
    rw [L] at D o;clear L;simp only [vak,encE,vac,vaf] at e0 e1 C e3 e4 e5 e6 e7 e8 e9 s;generalize enE x=en at D s;have m:=hI (BoxW.init wr #[.int .i64 x.id,.int .i64 x.ph,.int .i64 x.qu,.int .i64 x.t,.int .i64 x.bal,.int .i64 x.abal,.int .i64 x.seen,.int .i64 x.age,.string x.pay,.slice x.A x.z.size x.c] 58);go_wp2_with fail;have N:b < (wr.alloc (.cells #[.int .i64 x.id,.int .i64 x.ph,.int .i64 x.qu,.int .i64 x.t,.int .i64 x.bal,.int .i64 x.abal,.int .i64 x.seen,.int .i64 x.age,.string x.pay,.slice x.A x.z.size x.c] 58)).heap.size:=by simp;omega
    have z:Hid (0 < k->(wr.alloc (.cells #[.int .i64 x.id,.int .i64 x.ph,.int .i64 x.qu,.int .i64 x.t,.int .i64 x.bal,.int .i64 x.abal,.int .i64 x.seen,.int .i64 x.age,.string x.pay,.slice x.A x.z.size x.c] 58)).cell? ⟨b,E + (k - 1) * 10,none⟩=some (.int .i64 y)):=fun G=>(vbq wr _ _ a1).trans (n.out G)
    have n:=z;clear z e0 e1 C e3 e4 e5 e6 e7 e8 e9;have I:=hI (bel1 wr (.cells #[.int .i64 x.id,.int .i64 x.ph,.int .i64 x.qu,.int .i64 x.t,.int .i64 x.bal,.int .i64 x.abal,.int .i64 x.seen,.int .i64 x.age,.string x.pay,.slice x.A x.z.size x.c] 58));have r:=hI (qab F.out (.cells #[.int .i64 x.id,.int .i64 x.ph,.int .i64 x.qu,.int .i64 x.t,.int .i64 x.bal,.int .i64 x.abal,.int .i64 x.seen,.int .i64 x.age,.string x.pay,.slice x.A x.z.size x.c] 58));generalize wr.alloc (.cells #[.int .i64 x.id,.int .i64 x.ph,.int .i64 x.qu,.int .i64 x.t,.int .i64 x.bal,.int .i64 x.abal,.int .i64 x.seen,.int .i64 x.age,.string x.pay,.slice x.A x.z.size x.c] 58)=q at m r n I N |-
    have Q:=hI (fun p:ExtW q=>s.out p.to (qaa I.out p.h));clear s;have S:=fun p:ExtW q=>p.cell (a:=⟨wr.heap.size,0,none⟩) m.out.lt (m.out.at_ 0)
    have T:=fun p:ExtW q=>p.cell (a:=⟨wr.heap.size,1,none⟩) m.out.lt (m.out.at_ 1)
    have J:=fun p:ExtW q=>p.cell (a:=⟨wr.heap.size,2,none⟩) m.out.lt (m.out.at_ 2)
    have U:=fun p:ExtW q=>p.cell (a:=⟨wr.heap.size,3,none⟩) m.out.lt (m.out.at_ 3)
    have V:=fun p:ExtW q=>p.cell (a:=⟨wr.heap.size,4,none⟩) m.out.lt (m.out.at_ 4)
    have X:=fun p:ExtW q=>p.cell (a:=⟨wr.heap.size,5,none⟩) m.out.lt (m.out.at_ 5)
    have Y:=fun p:ExtW q=>p.cell (a:=⟨wr.heap.size,6,none⟩) m.out.lt (m.out.at_ 6)
    have Z:=fun p:ExtW q=>p.cell (a:=⟨wr.heap.size,7,none⟩) m.out.lt (m.out.at_ 7)
    have b8:=fun p:ExtW q=>p.cell (a:=⟨wr.heap.size,8,none⟩) m.out.lt (m.out.at_ 8)
    have b9:=fun p:ExtW q=>p.cell (a:=⟨wr.heap.size,9,none⟩) m.out.lt (m.out.at_ 9)
    cases g
    .have HF:Hid (tabE d=2):=qpm k v (by rw [o.out];rfl)
     have a2:(en != 0)=true:=D;clear D n;refine wprX ?_
     repeat (first | go_big_quiet_step ((go_at_call 190;exact Calls.ext_of (Q.out _))) | quiet_step (fail))
     refine wpQn fun P l=>?_
     have B:=hI (qaa r.out l);clear l S T J U V X Y Z b8 b9;go_wp2;go_ret;exact ⟨qag HF.out.symm,B.out⟩
    have a2:(en != 0)=false:=D;clear D;by_cases G:0 < k
    .have a0:decide ((0:Int) < (k:Int))=true:=vah jo
     obtain ⟨H,M⟩:∃ H,H + 1=k:=⟨k - 1,by omega⟩
     have a5:(k:Int) - 1=(H:Int):=by omega
     have a7:(H:Int) < (d.size:Int):=by omega
     have pv:=n.out G;rw [show k - 1=H by omega] at pv;have pb:=fun p:ExtW q=>p.cell (a:=⟨b,E + H * 10,none⟩) N pv
     clear pv n;by_cases u:x.id<=y
     .have O:decide (x.id<=y)=true:=vah u
      have HF:Hid (tabE d=2):=qpm k v (by rw [o.out,vcn,vat];intro h;have:=h G;omega);clear u M;refine wprX ?_
      repeat (first | go_big_quiet_step ((go_at_call 190;exact Calls.ext_of (Q.out _))) | quiet_step (fail))
      refine wpQn fun P l=>?_
      have B:=hI (qaa r.out l);clear l S T J U V X Y Z b8 b9;go_wp2;go_ret;exact ⟨qag HF.out.symm,B.out⟩
     have O:decide (x.id<=y)=false:=vab u;have HT:Hid (atT d k=true):=by show _=_;rw [o.out,vcn,vap];intro _;omega
     clear u M;refine wprX ?_
     repeat (first | go_big_quiet_step ((go_at_call 190;exact Calls.ext_of (Q.out _))) | quiet_step (fail))
     refine wpQn fun P l=>?_
     have B:=hI (qaa r.out l);clear l S T J U V X Y Z b8 b9;go_wp2;go_roundw
     case rel =>
      refine ⟨k + 1,by go_num,by omega,hI (fun j hj=>?_),B⟩;rcases val j k with h | h
      .exact t.out j h
      obtain rfl:j=k:=by omega
      exact HT.out
     case measure=>simp [intOf];omega
    have a0:decide ((0:Int) < (k:Int))=false:=vab jo;have HT:Hid (atT d k=true):=by show _=_;rw [o.out,vcn,vap];intro h;exact absurd h G
    clear n;refine wprX ?_
    repeat (first | go_big_quiet_step ((go_at_call 190;exact Calls.ext_of (Q.out _))) | quiet_step (fail))
    refine wpQn fun P l=>?_
    have B:=hI (qaa r.out l);clear l S T J U V X Y Z b8 b9;go_wp2;go_roundw
    case rel =>
     refine ⟨k + 1,by go_num,by omega,hI (fun j hj=>?_),B⟩;rcases val j k with h | h
     .exact t.out j h
     obtain rfl:j=k:=by omega
     exact HT.out
    case measure=>simp [intOf];omega
   have a4:decide ((k:Int) < (d.size:Int))=false:=by simp;omega
   go_wp2;go_ret;exact ⟨qag (qwc hs fun i hi=>t.out i jo).symm,F.out⟩
 have a3:decide ((40:Int) < (d.size:Int))=true:=vah jo;have HE:Hid (tabE d=2):=qwd hs;clear hs;go_in;go_wp2;go_ret;exact ⟨qag HE.out.symm,vag _ _⟩
theorem qtx (A:Option Addr) (c:Nat) (d:Array EN) (w:World) (h:RdT w A d) :
 Calls prog 116 #[.slice A d.size c] w fun e K=>e=.returned (.int .i64 (tabE d))/\Below w.heap.size w K:=by
 have M:=hI h;clear h;by_cases hs:d.size<=40
 .have a3:decide ((40:Int) < (d.size:Int))=false:=vab jo
  go_in;go_wp2
  go_loopw [3] (fun i wr=>∃ k:Nat,i=.int .i64 k/\k<=d.size/\Hid (∀ j,j < k->atT d j=true)/\Hid (Below w.heap.size w wr)) (fun i _=>d.size - (intOf i).toNat)
  case atStart=>exact ⟨0,rfl,vaj _,hI (fun j hj=>absurd hj jo),hI (vag _ _)⟩
  case round =>
   obtain ⟨k,rfl,hk,s,D⟩:=hrel;by_cases v:k < d.size
   .have kz:(k:Int) < (d.size:Int):=by omega
    obtain ⟨b,l,rfl,n,f⟩:=(M.out.below D.out).rd.at_ (i:=k) jo;have X:=f 0 jo;have Y:=f 1 jo;have y:=f 2 jo;have Z:=f 3 jo;have e4:=f 4 jo;have e5:=f 5 jo;have e6:=f 6 jo;have e7:=f 7 jo;have e8:=f 8 jo;have e9:=f 9 jo;have q:=hI (fun W (G:Below wr.heap.size wr W)=>qys d[k]! W ((M.out.below (qaa D.out G)).el k v) ((M.out.below (qaa D.out G)).el k v).cz);have B:=qwe d[k]!;have r:Hid (0 < k->wr.cell? ⟨b,l + (k - 1) * 10,none⟩=some (.int .i64 d[k - 1]!.id)):=fun h0=>by
     obtain ⟨F,a6,y,_,f2⟩:=(M.out.below D.out).rd.at_ (i:=k - 1) jo;injection y with y
     injection y with eb eo
     subst eb eo
     have:=f2 0 jo
     simp only [encE,vak,vac] at this;exact this
    have o:Hid (atT d k=(qgh d[k]! && decide (0 < k->d[k - 1]!.id < d[k]!.id))):=rfl;generalize d[k - 1]!.id=C at r o;obtain ⟨x,hx⟩:∃ x,d[k]! = x:=⟨_,rfl⟩
    rw [hx] at X Y y Z e4 e5 e6 e7 e8 e9 q B o;clear f hx;obtain ⟨g,H⟩:∃ g,qgh x=g:=⟨_,rfl⟩
    rw [H] at B o;clear H;simp only [vak,encE,vac,vaf] at X Y y Z e4 e5 e6 e7 e8 e9 q;generalize enE x=en at B q;have a2:=n;have t:=D;have L:=hI (fun p:ExtW wr=>q.out p.to p.h);clear q;have N:=fun p:ExtW wr=>p.cell (a:=⟨b,l + k * 10,none⟩) n X
    have O:=fun p:ExtW wr=>p.cell (a:=⟨b,l + k * 10 + 1,none⟩) n Y
    have F:=fun p:ExtW wr=>p.cell (a:=⟨b,l + k * 10 + 2,none⟩) n y
    have P:=fun p:ExtW wr=>p.cell (a:=⟨b,l + k * 10 + 3,none⟩) n Z
    have Q:=fun p:ExtW wr=>p.cell (a:=⟨b,l + k * 10 + 4,none⟩) n e4
    have R:=fun p:ExtW wr=>p.cell (a:=⟨b,l + k * 10 + 5,none⟩) n e5
    have S:=fun p:ExtW wr=>p.cell (a:=⟨b,l + k * 10 + 6,none⟩) n e6
    have T:=fun p:ExtW wr=>p.cell (a:=⟨b,l + k * 10 + 7,none⟩) n e7
    have U:=fun p:ExtW wr=>p.cell (a:=⟨b,l + k * 10 + 8,none⟩) n e8
    have V:=fun p:ExtW wr=>p.cell (a:=⟨b,l + k * 10 + 9,none⟩) n e9
    clear X Y y Z e4 e5 e6 e7 e8 e9;cases g
    .have HF:Hid (tabE d=2):=qpm k v (by rw [o.out];rfl)
     have a1:(en != 0)=true:=B;clear B r;go_wp2_with fail;refine wprX ?_
     repeat (first | go_big_quiet_step ((go_at_call 188;exact Calls.ext_of (L.out _))) | quiet_step (fail))
     refine wpQn fun K m=>?_
     have z:=hI (qaa t.out m);clear m N O F P Q R S T U V;go_wp2;go_ret;exact ⟨qag HF.out.symm,z.out⟩
    have a1:(en != 0)=false:=B;clear B;by_cases h0:0 < k
    .have a0:decide ((0:Int) < (k:Int))=true:=vah jo
     obtain ⟨E,I⟩:∃ E,E + 1=k:=⟨k - 1,by omega⟩
     have a5:(k:Int) - 1=(E:Int):=by omega
     have a7:(E:Int) < (d.size:Int):=by omega
     have pv:=r.out h0;rw [show k - 1=E by omega] at pv;have pb:=fun p:ExtW wr=>p.cell (a:=⟨b,l + E * 10,none⟩) a2 pv
     clear pv r;by_cases u:x.id<=C
     .have J:decide (x.id<=C)=true:=vah u
      have HF:Hid (tabE d=2):=qpm k v (by rw [o.out,vcn,vat];intro h;have:=h h0;omega);clear u I;go_wp2_with fail;refine wprX ?_
      repeat (first | go_big_quiet_step ((go_at_call 188;exact Calls.ext_of (L.out _))) | quiet_step (fail))
      refine wpQn fun K m=>?_
      have z:=hI (qaa t.out m);clear m N O F P Q R S T U V;go_wp2;go_ret;exact ⟨qag HF.out.symm,z.out⟩
     have J:decide (x.id<=C)=false:=vab u;have HT:Hid (atT d k=true):=by show _=_;rw [o.out,vcn,vap];intro _;omega
     clear u I;go_wp2_with fail;refine wprX ?_
     repeat (first | go_big_quiet_step ((go_at_call 188;exact Calls.ext_of (L.out _))) | quiet_step (fail))
     refine wpQn fun K m=>?_
     have z:=hI (qaa t.out m);clear m N O F P Q R S T U V;go_wp2;go_roundw
     case rel =>
      refine ⟨k + 1,by go_num,by omega,hI (fun j hj=>?_),z⟩;rcases val j k with h | h
      .exact s.out j h
      obtain rfl:j=k:=by omega
      exact HT.out
     case measure=>simp [intOf];omega
    have a0:decide ((0:Int) < (k:Int))=false:=vab jo;have HT:Hid (atT d k=true):=by show _=_;rw [o.out,vcn,vap];intro h;exact absurd h h0
    clear r;go_wp2_with fail;refine wprX ?_
    repeat (first | go_big_quiet_step ((go_at_call 188;exact Calls.ext_of (L.out _))) | quiet_step (fail))
    refine wpQn fun K m=>?_
    have z:=hI (qaa t.out m);clear m N O F P Q R S T U V;go_wp2;go_roundw
    case rel =>
     refine ⟨k + 1,by go_num,by omega,hI (fun j hj=>?_),z⟩;rcases val j k with h | h
     .exact s.out j h
     obtain rfl:j=k:=by omega
     exact HT.out
    case measure=>simp [intOf];omega
   have a4:decide ((k:Int) < (d.size:Int))=false:=by simp;omega
   go_wp2;go_ret;exact ⟨qag (qwc hs fun i hi=>s.out i jo).symm,D.out⟩
 have a3:decide ((40:Int) < (d.size:Int))=true:=vah jo;have HE:Hid (tabE d=2):=qwd hs;clear hs;go_in;go_wp2;go_ret;exact ⟨qag HE.out.symm,vag _ _⟩
