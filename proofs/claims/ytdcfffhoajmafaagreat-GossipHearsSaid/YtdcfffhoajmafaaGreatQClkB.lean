/- Texts that the law leans on. -/
import Derived.Test.YtdcfffhoajmafaaGreatQOwnK
import Derived.Test.YtdcfffhoajmafaaGreatQIdentB
set_option maxRecDepth 100000
set_option maxHeartbeats 16000000
namespace Go.Proofs.YtdcfffhoajmafaaGreat
open Go.RowKit Go.Sort Go.Lib Go.Maps Go.Proofs.Tryz
theorem law_int:Keyed prog 3:=int_keyed underlying3
theorem zero_bool (w:World):(zeroValue 4).run prog w=.ok (.bool false) w:=by kernel_rfl
theorem qjl (id:Int):(qfi id != 0) = !decide (10<=id/\id<=999999/\id % 10≠0):=by
 unfold qfi;by_cases h:id < 10\/999999 < id\/id % 10=0
 .rw [vam h,vab jo];rfl
 rw [vao h,vah jo];rfl
theorem wf_id {id:Int} (h:10<=id/\id<=999999/\id % 10≠0):(Lit.int .i64 id).wf=true:=by
 have a:(-9223372036854775808:Int)<=id:=by omega
 have b:id<=9223372036854775807:=by omega
 simp [Lit.wf,IntKind.min,IntKind.max,IntKind.signed,IntKind.bits];omega
theorem clk_any (a floor:Int) (A:Option Addr) (c:Nat) (d:Array (Int×Int)) (w:World) (h:RdK qae 2 w.heap.size w A d) (hs:d.size<=1000000) :
 Calls prog 121 #[.int .i64 a,.int .i64 floor,.slice A d.size c] w fun e Z=>e=.returned (.int .i64 (clkE a floor d))/\Below w.heap.size w Z:=by
 have Q:=hI h;clear h;have V:=@run_makeMap prog;by_cases g:0<=floor/\floor<=a/\a<=1000000
 .have q1:decide (floor < 0)=false:=by simp;omega
  have q2:decide (a < floor)=false:=by simp;omega
  have q3:decide ((1000000:Int) < a)=false:=by simp;omega
  have P:=hI g;clear g;go_in;go_wp2
  go_loopw [7,26] (fun X i wr=>∃ k:Nat,i=.int .i64 k/\k<=d.size/\X=.int .i64 (qhb floor d k)/\Hid (∀ j,j < k->qiu a floor d j=true)/\Hid (Below w.heap.size w wr)/\Hid (wr.ownsMap prog 3 (plainElem (H:=Unit) prog 4) w.heap.size k (qzz (idsU d k)))) (fun _ i _=>d.size - (intOf i).toNat)
  case atStart=>exact ⟨0,rfl,vaj _,rfl,hI (fun j E=>absurd E jo),hI (bel1 w _),hI (World.ownsMap_made _ _ _ _)⟩
  case round =>
   obtain ⟨k,rfl,hk,rfl,n,z,I⟩:=hrel;by_cases v:k < d.size
   .have kz:(k:Int) < (d.size:Int):=by omega
    obtain ⟨b,Y,rfl,T,f⟩:=(Q.out.below z.out).at_ (i:=k) jo;have J:=f 0 jo;have K:=f 1 jo;have l:=hI (qwy v n.out);have s:Hid (idsU d (k + 1)=idsU d k ++ [d[k]!.2]):=idsU_succ v;have r:Hid (qhb floor d (k + 1)=d[k]!.1):=by show qhb floor d (k + 1)=_;unfold qhb;rw [vao jo];rfl
    have B:=hI (fun e:qiu a floor d k=false=>clkE_no k v e);obtain ⟨x,N⟩:∃ x,d[k]! = x:=⟨_,rfl⟩
    rw [N] at J K l s r;clear f N;obtain ⟨t,q⟩:=x;simp only [vak,qae,vac,vaf] at J K l s r;have D:=qjl q;by_cases y:10<=q/\q<=999999/\q % 10≠0
    .rw [vah y] at D
     have p:keyOf prog 3 (.int .i64 q)=some (.int .i64 q):=keyOf_int_mk underlying3 (wf_id y);obtain ⟨R,U,u⟩:=qmv (I.out.alloc (.cells #[.int .i64 t,.int .i64 q] 29)) law_int underlying213 underlying4 (zero_bool _) p;rw [seen_at _ _ (wf_id y)] at u;have C:(idsU d k).contains q=R:=by simpa using u
     rw [vah y,C] at l;clear u C y
     go_wp2_with (first
      | (go_at_call 130;refine (qdc _ _).mono ?_;rintro _ _ ⟨rfl,rfl⟩)
      | (at_mapUpdate;refine wpList_mapUpdate_own _ rfl _ _ _ 213 rfl 3 4 law_int underlying213 (plainElem (H:=Unit) prog 4) w.heap.size k _ rfl (I.out.alloc _) jl _ _ _ rfl rfl p _ [] (plainElem_bool underlying4 true) ?_;intro w1 o m;have G:=hI o;have F:=hI m;clear o m))
     all_goals first
      | (go_ret
         refine ⟨qag (B.out ?_).symm,qab z.out _⟩;rw [l.out]
         grind)
      | (go_roundw
         case rel =>
          refine ⟨k + 1,by go_num,by omega,by rw [r.out],hI (fun j E=>?_),hI ?_,hI ?_⟩
          .rcases val j k with h | h
           .exact n.out j h
           obtain rfl:j=k:=by omega
           rw [l.out]
           grind
          .exact (qab z.out _).grown F.out (by have:=z.out.size;simp;omega) (fun j E=>by cases E;exact vaa _)
          rw [s.out,seen_snoc];exact G.out
         case measure=>simp [intOf];omega)
    rw [vab y] at D l;clear y;go_wp2_with (go_at_call 130;refine (qdc _ _).mono ?_;rintro _ _ ⟨rfl,rfl⟩)
    all_goals
     go_ret;refine ⟨qag (B.out ?_).symm,qab z.out _⟩;rw [l.out]
     grind
   have M:decide ((k:Int) < (d.size:Int))=false:=by simp;omega
   go_wp2;go_ret;exact ⟨qag (qww P.out fun i hi=>n.out i jo).symm,z.out⟩
 have O:=hI (qwx (d:=d) g);rcases (show floor < 0\/(¬ floor < 0/\a < floor)\/(¬ floor < 0/\¬ a < floor/\1000000 < a) by omega) with L | ⟨L,S⟩ | ⟨L,S,g3⟩
 all_goals clear g
 go_in;go_wp2
 all_goals first
  | (go_ret;exact ⟨qag O.out.symm,vag _ _⟩)
end Go.Proofs.YtdcfffhoajmafaaGreat
namespace Go.Proofs.YtdcfffhoajmafaaGreat
open Go.RowKit Go.Sort Go.Lib Go.Proofs.Tryz
theorem qqy (id:Int):(qat id == 0) = !decide (10<=id/\id<=999999/\id % 10≠0):=by
 unfold qat;by_cases h:id < 10\/999999 < id\/id % 10=0
 .rw [vam h,vab jo];rfl
 rw [vao h,vah jo];simp;omega
theorem rClk_any (l floor:Int) (A:Option Addr) (c:Nat) (d:Array (Int×Int)) (w:World) (h:RdK qae 2 w.heap.size w A d) (hs:d.size<=1000000) :
 Calls prog 115 #[.int .i64 l,.int .i64 floor,.slice A d.size c] w fun e u=>e=.returned (.int .i64 (clkE l floor d))/\Below w.heap.size w u:=by
 have HR:=hI h;clear h;by_cases g:0<=floor/\floor<=l/\l<=1000000
 .have p1:decide (floor < 0)=false:=by simp;omega
  have p2:decide (l < floor)=false:=by simp;omega
  have p3:decide ((1000000:Int) < l)=false:=by simp;omega
  have HG:=hI g;clear g;go_in;go_wp2
  go_loopw [7] (fun i wr=>∃ n:Nat,i=.int .i64 n/\n<=d.size/\Hid (∀ j,j < n->qiu l floor d j=true)/\Hid (Below w.heap.size w wr)) (fun i _=>d.size - (intOf i).toNat)
  case atStart=>exact ⟨0,rfl,vaj _,hI (fun j hj=>absurd hj jo),hI (vag _ _)⟩
  case round =>
   obtain ⟨n,rfl,hn,B,L⟩:=hrel;by_cases a3:n < d.size
   .have nz:(n:Int) < (d.size:Int):=by omega
    obtain ⟨b,r,rfl,a9,f⟩:=(HR.out.below L.out).at_ (i:=n) jo;have e0:=f 0 jo;have Q:=f 1 jo;have z:=hI (qwy a3 B.out);have F:=hI (fun e:qiu l floor d n=false=>clkE_no n a3 e);have P:Hid ((n=0->qhb floor d n=floor)/\(0 < n->qhb floor d n=d[n - 1]!.1/\floor < qhb floor d n)):=by
     refine ⟨fun h=>by unfold qhb;rw [vam h],fun h=>?_⟩;have hp:=B.out (n - 1) jo;unfold qiu at hp;simp only [vav,vap] at hp;unfold qhb;rw [vao jo];exact ⟨rfl,hp.1.1.1⟩
    have t:b < wr.heap.size:=vad a9 L.out.size;obtain ⟨x,hx⟩:∃ x,d[n]! = x:=⟨_,rfl⟩
    rw [hx] at e0 Q z;clear f hx;simp only [vak,qae,vac,vaf] at e0 Q;have q0:=fun p:ExtW wr=>p.cell (a:=⟨b,r + n * 2,none⟩) t e0
    have s:=hI (fun W=>qdu x.2 W);have O:=qqy x.2;by_cases J:10<=x.2/\x.2<=999999/\x.2 % 10≠0
    .rw [vah J] at O z
     clear J;by_cases E:x.1<=floor
     .have a6:decide (x.1<=floor)=true:=by simp;omega
      have H:Hid (clkE l floor d=2):=F.out (by
       rw [z.out];rcases vba n with h | h
       .have:=P.out.1 h;rw [vab jo];rfl
       have:=P.out.2 h;rw [vab jo];rfl)
      clear E;generalize qat x.2=sf at O s;go_wp2_with (go_at_call 117;refine (s.out _).mono ?_;rintro e u ⟨rfl,rfl⟩);refine wprX ?_
      repeat (first | go_big_quiet_step (fail) | quiet_step (fail))
      refine wpQn fun u k=>?_
      have o:=hI (qaa L.out k);clear k;go_wp2;go_ret;exact ⟨qag H.out.symm,o.out⟩
     have a6:decide (x.1<=floor)=false:=by simp;omega
     by_cases M:l < x.1
     .have a7:decide (l < x.1)=true:=by simp;omega
      have H:Hid (clkE l floor d=2):=F.out (by rw [z.out,vab jo];rfl);clear E M;generalize qat x.2=sf at O s;go_wp2_with (go_at_call 117;refine (s.out _).mono ?_;rintro e u ⟨rfl,rfl⟩);refine wprX ?_
      repeat (first | go_big_quiet_step (fail) | quiet_step (fail))
      refine wpQn fun u k=>?_
      have o:=hI (qaa L.out k);clear k;go_wp2;go_ret;exact ⟨qag H.out.symm,o.out⟩
     have a7:decide (l < x.1)=false:=by simp;omega
     by_cases g0:0 < n
     .obtain ⟨n',a4⟩:∃ n',n' + 1=n:=⟨n - 1,by omega⟩
      have a5:decide ((0:Int) < (n:Int))=true:=by simp;omega
      have b1:(n:Int) - 1=(n':Int):=by omega
      have b2:(n':Int) < (d.size:Int):=by omega
      obtain ⟨b',T,I,S,R⟩:=(HR.out.below L.out).at_ (i:=n') jo;injection I with I
      injection I with eb eo
      subst eb eo;have u0:=R 0 jo;have D:=(P.out.2 g0).1;rw [show n - 1=n' by omega] at D;simp only [vak,qae,vac] at u0;rw [<-D] at u0;have q2:=fun p:ExtW wr=>p.cell (a:=⟨b,r + n' * 2,none⟩) t u0
      clear R u0 D;by_cases g3:x.1<=qhb floor d n
      .have a8:decide (x.1<=qhb floor d n)=true:=by simp;omega
       have H:Hid (clkE l floor d=2):=F.out (by rw [z.out,vab jo];rfl);generalize qhb floor d n=last at *;clear E M g3 a4;generalize qat x.2=sf at O s;go_wp2_with (go_at_call 117;refine (s.out _).mono ?_;rintro e u ⟨rfl,rfl⟩);refine wprX ?_
       repeat (first | go_big_quiet_step (fail) | quiet_step (fail))
       refine wpQn fun u k=>?_
       have o:=hI (qaa L.out k);clear k;go_wp2;go_ret;exact ⟨qag H.out.symm,o.out⟩
      have a8:decide (x.1<=qhb floor d n)=false:=by simp;omega
      have V:Hid ((decide (qhb floor d n < x.1/\x.1<=l) && true)=true):=by show _=_;rw [vah jo];rfl
      generalize qhb floor d n=last at *;clear E M g3 a4;generalize a0:qat x.2=sf at O s;clear a0;go_wp2_with (go_at_call 117;refine (s.out _).mono ?_;rintro e u ⟨rfl,rfl⟩);refine wprX ?_
      repeat (first | go_big_quiet_step (fail) | quiet_step (fail))
      refine wpQn fun u k=>?_
      have o:=hI (qaa L.out k);have y1:=fun p:ExtW u=>p.cell (a:=⟨b,r + n * 2 + 1,none⟩) (vad t k.size) ((k.cell (p:=⟨b,r + n * 2 + 1,none⟩) t).trans Q)
      have x1:=(k.cell (p:=⟨b,r + n * 2 + 1,none⟩) t).trans Q;have v:b < u.heap.size:=vad t k.size;have X:=hI (HR.out.below o.out);clear k q0 q2 Q e0 O t;go_wp2
      go_loopw [10] (fun m a1=>∃ j:Nat,m=.int .i64 j/\j<=n/\Hid (∀ i,i < j->d[i]!.2≠x.2)/\Hid (Below u.heap.size u a1)) (fun m _=>n - (intOf m).toNat)
      case atStart=>exact ⟨0,rfl,vaj _,hI (fun i N=>absurd N jo),hI (vag _ _)⟩
      case round =>
       obtain ⟨j,rfl,hj,K,q⟩:=hrel;have y2:=fun p:ExtW wr=>p.cell (a:=⟨b,r + n * 2 + 1,none⟩) (vad v q.out.size) ((q.out.cell (p:=⟨b,r + n * 2 + 1,none⟩) v).trans x1)
       by_cases Y:j < n
       .have jz:(j:Int) < (n:Int):=by omega
        have jd:(j:Int) < (d.size:Int):=by omega
        obtain ⟨b',T,I,S,R⟩:=(X.out.below (q.out.mono o.out.size)).at_ (i:=j) jo;injection I with I
        injection I with eb eo
        subst eb eo;have u1:=R 1 jo;have U:Hid (d[j]!.2=d[j]!.2):=hI rfl;obtain ⟨y,hy⟩:∃ y,d[j]! = y:=⟨_,rfl⟩
        rw [hy] at u1;have HY:=hI hy;simp only [qae,vac,vaf] at u1;have y3:=fun p:ExtW wr=>p.cell (a:=⟨b,r + j * 2 + 1,none⟩) (vad v q.out.size) u1
        clear R hy u1 U;by_cases G:y.2=x.2
        .have Z:(y.2 == x.2)=true:=by simpa using G
         have H:Hid (clkE l floor d=2):=F.out (by
          rw [z.out]
          have:(idsU d n).contains x.2=true:=(qij jo).2 ⟨j,Y,by rw [HY.out];exact G⟩
          rw [this];simp)
         clear G;go_wp2_with fail;refine wprX ?_
         repeat (first | go_big_quiet_step (fail) | quiet_step (fail))
         refine wpQn fun u k=>?_
         have C:=hI (qaa q.out k);clear k y2 y3;go_wp2;go_ret;exact ⟨qag H.out.symm,qaa o.out C.out⟩
        have Z:(y.2 == x.2)=false:=by simpa using G
        have HQ:=hI G;clear G;go_wp2_with fail;refine wprX ?_
        repeat (first | go_big_quiet_step (fail) | quiet_step (fail))
        refine wpQn fun u k=>?_
        have C:=hI (qaa q.out k);clear k y2 y3;go_wp2;go_roundw
        case rel =>
         refine ⟨j + 1,by go_num,by omega,hI (fun i N=>?_),C⟩;rcases val i j with h | h
         .exact K.out i h
         obtain rfl:i=j:=by omega
         rw [HY.out];exact HQ.out
        case measure=>simp [intOf];omega
       have a2:decide ((j:Int) < (n:Int))=false:=by simp;omega
       have HT:Hid (qiu l floor d n=true):=by
        show _=_;rw [z.out]
        have:(idsU d n).contains x.2=false:=by
         rw [vbi];intro hc;obtain ⟨i,N,e⟩:=(qij jo).1 hc;exact K.out i jo e
        rw [this,V.out];rfl
       go_wp2;go_roundw
       case rel =>
        refine ⟨n + 1,by go_num,by omega,hI (fun i N=>?_),hI (qaa o.out q.out)⟩;rcases val i n with h | h
        .exact B.out i h
        obtain rfl:i=n:=by omega
        exact HT.out
       case measure=>simp [intOf];omega
     have a5:decide ((0:Int) < (n:Int))=false:=by simp;omega
     have V:Hid ((decide (qhb floor d n < x.1/\x.1<=l) && true)=true):=by
      have:=P.out.1 jo
      show _=_;rw [vah jo];rfl
     have q2:True:=trivial;clear E M;generalize a0:qat x.2=sf at O s;clear a0;go_wp2_with (go_at_call 117;refine (s.out _).mono ?_;rintro e u ⟨rfl,rfl⟩);refine wprX ?_
     repeat (first | go_big_quiet_step (fail) | quiet_step (fail))
     refine wpQn fun u k=>?_
     have o:=hI (qaa L.out k);have y1:=fun p:ExtW u=>p.cell (a:=⟨b,r + n * 2 + 1,none⟩) (vad t k.size) ((k.cell (p:=⟨b,r + n * 2 + 1,none⟩) t).trans Q)
     have x1:=(k.cell (p:=⟨b,r + n * 2 + 1,none⟩) t).trans Q;have v:b < u.heap.size:=vad t k.size;have X:=hI (HR.out.below o.out);clear k q0 q2 Q e0 O t;go_wp2
     go_loopw [10] (fun m a1=>∃ j:Nat,m=.int .i64 j/\j<=n/\Hid (∀ i,i < j->d[i]!.2≠x.2)/\Hid (Below u.heap.size u a1)) (fun m _=>n - (intOf m).toNat)
     case atStart=>exact ⟨0,rfl,vaj _,hI (fun i N=>absurd N jo),hI (vag _ _)⟩
     case round =>
      obtain ⟨j,rfl,hj,K,q⟩:=hrel;have y2:=fun p:ExtW wr=>p.cell (a:=⟨b,r + n * 2 + 1,none⟩) (vad v q.out.size) ((q.out.cell (p:=⟨b,r + n * 2 + 1,none⟩) v).trans x1)
      by_cases Y:j < n
      .have jz:(j:Int) < (n:Int):=by omega
       have jd:(j:Int) < (d.size:Int):=by omega
       obtain ⟨b',T,I,S,R⟩:=(X.out.below (q.out.mono o.out.size)).at_ (i:=j) jo;injection I with I
       injection I with eb eo
       subst eb eo;have u1:=R 1 jo;have U:Hid (d[j]!.2=d[j]!.2):=hI rfl;obtain ⟨y,hy⟩:∃ y,d[j]! = y:=⟨_,rfl⟩
       rw [hy] at u1;have HY:=hI hy;simp only [qae,vac,vaf] at u1;have y3:=fun p:ExtW wr=>p.cell (a:=⟨b,r + j * 2 + 1,none⟩) (vad v q.out.size) u1
       clear R hy u1 U;by_cases G:y.2=x.2
       .have Z:(y.2 == x.2)=true:=by simpa using G
        have H:Hid (clkE l floor d=2):=F.out (by
         rw [z.out]
         have:(idsU d n).contains x.2=true:=(qij jo).2 ⟨j,Y,by rw [HY.out];exact G⟩
         rw [this];simp)
        clear G;go_wp2_with fail;refine wprX ?_
        repeat (first | go_big_quiet_step (fail) | quiet_step (fail))
        refine wpQn fun u k=>?_
        have C:=hI (qaa q.out k);clear k y2 y3;go_wp2;go_ret;exact ⟨qag H.out.symm,qaa o.out C.out⟩
       have Z:(y.2 == x.2)=false:=by simpa using G
       have HQ:=hI G;clear G;go_wp2_with fail;refine wprX ?_
       repeat (first | go_big_quiet_step (fail) | quiet_step (fail))
       refine wpQn fun u k=>?_
       have C:=hI (qaa q.out k);clear k y2 y3;go_wp2;go_roundw
       case rel =>
        refine ⟨j + 1,by go_num,by omega,hI (fun i N=>?_),C⟩;rcases val i j with h | h
        .exact K.out i h
        obtain rfl:i=j:=by omega
        rw [HY.out];exact HQ.out
       case measure=>simp [intOf];omega
      have a2:decide ((j:Int) < (n:Int))=false:=by simp;omega
      have HT:Hid (qiu l floor d n=true):=by
       show _=_;rw [z.out]
       have:(idsU d n).contains x.2=false:=by
        rw [vbi];intro hc;obtain ⟨i,N,e⟩:=(qij jo).1 hc;exact K.out i jo e
       rw [this,V.out];rfl
      go_wp2;go_roundw
      case rel =>
       refine ⟨n + 1,by go_num,by omega,hI (fun i N=>?_),hI (qaa o.out q.out)⟩;rcases val i n with h | h
       .exact B.out i h
       obtain rfl:i=n:=by omega
       exact HT.out
      case measure=>simp [intOf];omega
    rw [vab J] at O;have H:Hid (clkE l floor d=2):=F.out (by rw [z.out,vab J];simp);clear J;generalize qat x.2=sf at O s;go_wp2_with (go_at_call 117;refine (s.out _).mono ?_;rintro e u ⟨rfl,rfl⟩);refine wprX ?_
    repeat (first | go_big_quiet_step (fail) | quiet_step (fail))
    refine wpQn fun u k=>?_
    have o:=hI (qaa L.out k);clear k;go_wp2;go_ret;exact ⟨qag H.out.symm,o.out⟩
   have b0:decide ((n:Int) < (d.size:Int))=false:=by simp;omega
   go_wp2;go_ret;exact ⟨qag (qww HG.out fun i N=>B.out i jo).symm,L.out⟩
 have HE:=hI (qwx (d:=d) g);go_in;rcases (show floor < 0\/(¬ floor < 0/\l < floor)\/(¬ floor < 0/\¬ l < floor/\1000000 < l) by omega) with E | ⟨E,M⟩ | ⟨E,M,g3⟩
 .have p1:decide (floor < 0)=true:=vah E
  clear E g;go_wp2;go_ret;exact ⟨qag HE.out.symm,vag _ _⟩
 .have p1:decide (floor < 0)=false:=vab E
  have p2:decide (l < floor)=true:=vah M;clear E M g;go_wp2;go_ret;exact ⟨qag HE.out.symm,vag _ _⟩
 have p1:decide (floor < 0)=false:=vab E;have p2:decide (l < floor)=false:=vab M;have p3:decide ((1000000:Int) < l)=true:=vah g3;clear E M g3 g;go_wp2;go_ret;exact ⟨qag HE.out.symm,vag _ _⟩
end Go.Proofs.YtdcfffhoajmafaaGreat
