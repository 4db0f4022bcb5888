/- Texts that the law leans on. -/
import Derived.Test.YtdcfffhoajmafaaGreatQRead
import Derived.Test.YtdcfffhoajmafaaGreatQGoP
import Derived.Test.YtdcfffhoajmafaaGreatQKnT
set_option maxRecDepth 100000
set_option maxHeartbeats 4000000
namespace Go.Proofs.YtdcfffhoajmafaaGreat
open Go.RowKit Go.Sort Go.Lib Go.Proofs.Tryz
theorem quo (H I:Option Addr) (c1 c2:Nat) (a d2:Array Int) (w:World) (K:RdI_R w.heap.size w H a) (L:RdI_R w.heap.size w I d2) (T:a.size<=100000000) (U:d2.size<=100000000) :
 Calls prog 102 #[.slice H a.size c1,.slice I d2.size c2] w fun e N=>∃ v,e=.returned v/\N.ownsRow w.heap.size 3 1 v (qcd a d2).toList.length ((qcd a d2).toList.map (Value.int .i64))/\Below w.heap.size w N:=by
 obtain ⟨z,j,m,n,o⟩:=vbo qcc;go_in;go_wp2
 go_loopw [5,6] (fun v i wr=>∃ k:Nat,k<=max a.size d2.size/\i=.int .i64 k/\wr.ownsRow w.heap.size 3 1 v (mrgL a d2 k).length ((mrgL a d2 k).map (Value.int .i64))/\Below w.heap.size w wr) (fun _ i _=>max a.size d2.size - (intOf i).toNat)
 case atStart=>exact ⟨0,vaj _,rfl,⟨rfl,Or.inl ⟨rfl,rfl⟩⟩,vag _ _⟩
 case round =>
  obtain ⟨k,hk,rfl,b,g⟩:=hrel;by_cases X:k < max a.size d2.size
  .have q:Hid (mrgL a d2 (k + 1)=mrgL a d2 k ++ [qfm a d2 k]):=rfl
   have r:(mrgL a d2 k).length<=100000000:=by rw [mrgL_len];omega
   generalize mrgL a d2 k=l at q b r;by_cases s:k < d2.size
   .by_cases p:k < a.size
    .obtain ⟨P,Z,rfl,_,B⟩:=(K.below g).at_ p
     obtain ⟨Q,o2,rfl,_,C⟩:=(L.below g).at_ s;have t:Hid (qfm a d2 k=max a[k]! d2[k]!):=by show _=_;unfold qfm;rw [vam p,vam s]
     generalize a[k]! = x at B t;generalize d2[k]! = y at C t;have G:(k:Int) < (a.size:Int):=by omega
     have O:(k:Int) < (d2.size:Int):=by omega
     have R:decide ((a.size:Int)<=(k:Int))=false:=by simp;omega
     have J:decide ((d2.size:Int)<=(k:Int))=false:=by simp;omega
     by_cases D:x < y
     .have f:Hid (qfm a d2 k=y):=by show _=_;rw [t.out];omega
      go_wp2;go_quiet (fail);go_wp2_with (at_builtin;refine vay _ rfl _ _ 26 rfl w.heap.size 3 z (.int .i64 0) 1 8 underlying26 j m n o rfl jd _ _ _ rfl (World.ownsRow.alloc (w:=wr.drewN nq) b _) ⟨(wr.drewN nq).heap.size,0,none⟩ 1 1 [.int .i64 y] rfl rfl ?c1 ?c2 ?c3 ?c4 ?c5 ?_)
      case c1=>exact qdr _ _ _
      case c2=>intro u h;simp at h;subst h;rfl
      case c3=>unfold maxLen;omega
      case c4=>omega
      case c5=>exact (qab (qaj g nq) _).size
      intro E F d c _;go_wp2;go_roundw
      case rel=>exact ⟨k + 1,by omega,by go_num,by rw [q.out,f.out];exact qir d,qcr (wr:=wr.drewN nq) (qaj g nq) b c⟩
      case measure=>simp [intOf];omega
     have Y:y<=x:=by omega
     have V:decide (x < y)=false:=by simp;omega
     have f:Hid (qfm a d2 k=x):=by show _=_;rw [t.out];omega
     clear D;go_wp2;go_quiet (fail);go_wp2_with (at_builtin;refine vay _ rfl _ _ 26 rfl w.heap.size 3 z (.int .i64 0) 1 8 underlying26 j m n o rfl jd _ _ _ rfl (World.ownsRow.alloc (w:=wr.drewN nq) b _) ⟨(wr.drewN nq).heap.size,0,none⟩ 1 1 [.int .i64 x] rfl rfl ?c1 ?c2 ?c3 ?c4 ?c5 ?_)
     case c1=>exact qdr _ _ _
     case c2=>intro u h;simp at h;subst h;rfl
     case c3=>unfold maxLen;omega
     case c4=>omega
     case c5=>exact (qab (qaj g nq) _).size
     intro E F d c _;go_wp2;go_roundw
     case rel=>exact ⟨k + 1,by omega,by go_num,by rw [q.out,f.out];exact qir d,qcr (wr:=wr.drewN nq) (qaj g nq) b c⟩
     case measure=>simp [intOf];omega
    obtain ⟨Q,o2,rfl,_,C⟩:=(L.below g).at_ s;have f:Hid (qfm a d2 k=d2[k]!):=by show _=_;unfold qfm;rw [vao p]
    generalize d2[k]! = y at C f;have O:(k:Int) < (d2.size:Int):=by omega
    have G:decide ((k:Int) < (a.size:Int))=false:=by simp;omega
    have R:decide ((a.size:Int)<=(k:Int))=true:=by simp;omega
    have J:decide ((d2.size:Int)<=(k:Int))=false:=by simp;omega
    have S:(a.size:Int)<=(k:Int):=by omega
    clear p;go_wp2;go_quiet (fail);go_wp2_with (at_builtin;refine vay _ rfl _ _ 26 rfl w.heap.size 3 z (.int .i64 0) 1 8 underlying26 j m n o rfl jd _ _ _ rfl (World.ownsRow.alloc (w:=wr.drewN nq) b _) ⟨(wr.drewN nq).heap.size,0,none⟩ 1 1 [.int .i64 y] rfl rfl ?c1 ?c2 ?c3 ?c4 ?c5 ?_)
    case c1=>exact qdr _ _ _
    case c2=>intro u h;simp at h;subst h;rfl
    case c3=>unfold maxLen;omega
    case c4=>omega
    case c5=>exact (qab (qaj g nq) _).size
    intro E F d c _;go_wp2;go_roundw
    case rel=>exact ⟨k + 1,by omega,by go_num,by rw [q.out,f.out];exact qir d,qcr (wr:=wr.drewN nq) (qaj g nq) b c⟩
    case measure=>simp [intOf];omega
   have p:k < a.size:=by omega
   obtain ⟨P,Z,rfl,_,B⟩:=(K.below g).at_ p;have f:Hid (qfm a d2 k=a[k]!):=by show _=_;unfold qfm;rw [vam p,vao s]
   generalize a[k]! = x at B f;have G:(k:Int) < (a.size:Int):=by omega
   have J:decide ((d2.size:Int)<=(k:Int))=true:=by simp;omega
   have S:(d2.size:Int)<=(k:Int):=by omega
   clear s;go_wp2_with (at_builtin;refine vay _ rfl _ _ 26 rfl w.heap.size 3 z (.int .i64 0) 1 8 underlying26 j m n o rfl jd _ _ _ rfl (b.alloc _) ⟨wr.heap.size,0,none⟩ 1 1 [.int .i64 x] rfl rfl ?c1 ?c2 ?c3 ?c4 ?c5 ?_)
   case c1=>exact qdr _ _ _
   case c2=>intro u h;simp at h;subst h;rfl
   case c3=>unfold maxLen;omega
   case c4=>omega
   case c5=>exact (qab g _).size
   intro E F d c _;go_wp2;go_roundw
   case rel=>exact ⟨k + 1,by omega,by go_num,by rw [q.out,f.out];exact qir d,qcr g b c⟩
   case measure=>simp [intOf];omega
  obtain rfl:k=max a.size d2.size:=by omega
  have G:decide (((max a.size d2.size:Nat):Int) < (a.size:Int))=false:=by simp;omega
  have O:decide (((max a.size d2.size:Nat):Int) < (d2.size:Int))=false:=by simp;omega
  have y1:(a.size:Int)<=((max a.size d2.size:Nat):Int):=by omega
  have y2:(d2.size:Int)<=((max a.size d2.size:Nat):Int):=by omega
  have M:mrgL a d2 (max a.size d2.size)=(qcd a d2).toList:=by rw [mrgL_eq];simp [qcd]
  rw [M] at b;have A:=hI b;clear b M;generalize (max a.size d2.size:Nat)=mx at *;go_wp2;go_ret;exact ⟨_,rfl,A.out,g⟩
end Go.Proofs.YtdcfffhoajmafaaGreat
set_option maxRecDepth 100000
set_option maxHeartbeats 16000000
namespace Go.Proofs.YtdcfffhoajmafaaGreat
open Go.RowKit Go.Sort Go.Lib Go.Proofs.Tryz
section
attribute [local go_sem ↓] qap qan
attribute [local go_sem] qaw qao qal qbb qbv
def dueK (d:Array EN):Nat->Array Int
 | 0=>#[]
 | k + 1=>if qna d[k]!.ph && decide (6<=d[k]!.age) then (dueK d k).push d[k]!.id else dueK d k
theorem qsa (d:Array EN) (k:Nat):(dueK d k).size<=k:=by
 induction k with
 | zero=>exact vaa _
 | succ k ih =>
   unfold dueK;split
   .simp;omega
   omega
def dueR (r:RP):Array Int:=if chkR r=true/\r.ticks.tmod (8 * r.n)=0 then dueK r.e.z r.e.z.size else #[]
theorem due_any (r:RP) (w:World) (h:RdP w r) (V:FewC r) :
 Calls prog 25 #[.agg (encP r).toArray] w fun e y=>(∃ v,e=.returned v/\y.ownsRow w.heap.size 3 1 v (dueR r).size ((dueR r).toList.map (Value.int .i64)))/\Below w.heap.size w y:=by
 obtain ⟨j0,X,a2,a3,a4⟩:=vbo qcc;have H:Hid (∀ W,Below w.heap.size w W->Calls prog 15 #[.agg (encP r).toArray] W fun e y=>e=.returned (.int .i64 (repE r))/\Below W.heap.size W y):=fun W q=>qcx r W (h.below q) V
 have l:Hid (dueR r=if chkR r=true/\r.ticks.tmod (8 * r.n)=0 then dueK r.e.z r.e.z.size else #[]):=rfl;have T:=hI h.e.rd;have b0:=V.es;have HN:=hI (fun s:chkR r=true=>(qew s).1);obtain ⟨A,g⟩:∃ A,A=(encP r).toArray:=⟨_,rfl⟩
 obtain ⟨a0,a7⟩:=rowP g;have J:Hid (A[0]?=some (.int .i64 r.n)):=by show _=_;rw [g];rfl
 have K:Hid (A[6]?=some (.int .i64 r.ticks)):=by show _=_;rw [g];rfl
 have S:Hid (A[7]?=some (.slice r.e.A r.e.z.size r.e.c)):=by show _=_;rw [g];rfl
 obtain ⟨D,hD⟩:∃ D,dueR r=D:=⟨_,rfl⟩
 rw [hD] at l |-
 rw [<-g] at H;clear h V hD;have C:∀ x:Array Value,A=x->Calls prog 25 #[.agg x] w fun e y=>(∃ v,e=.returned v/\y.ownsRow w.heap.size 3 1 v D.size (D.toList.map (Value.int .i64)))/\Below w.heap.size w y:=by
  rintro _ rfl;simp only [encP] at g;rw [g];go_in;rw [<-g];clear g;have z:=hI (show BoxG w w.heap.size A 35 (w.alloc (.cells A 35)) from ⟨bel1 w _,vaw w _⟩);have x1:=z.out.box a0;have x2:=z.out.rowAt;by_cases s:chkR r=true
  .rw [qdh s] at H
   have a6:=HN.out s;have Z:¬ (8 * r.n=0):=by omega
   have a1:IntKind.i64.wrap (8 * r.n)=8 * r.n:=vcu _ jo;by_cases t:r.ticks.tmod (8 * r.n)=0
   .rw [vam ⟨s,t⟩] at l
    go_upto_region 5 with (go_at_call 15;refine (H.out _ z.out.b).mono ?_;rintro _ w1 ⟨rfl,q⟩;have d:=hI (z.out.next q);clear q x1 x2;have c0:=d.out.at_ 0 J.out;have c6:=d.out.at_ 6 K.out;have c7:=d.out.at_ 7 S.out)
    clear c0 c6 c7 t Z a1
    go_loopw [3,5,21] (fun v p i wr=>∃ k:Nat,i=.int .i64 k/\k<=r.e.z.size/\wr.ownsRow w.heap.size 3 1 v (dueK r.e.z k).size ((dueK r.e.z k).toList.map (Value.int .i64))/\Hid (Below w.heap.size w wr)) (fun _ _ i _=>r.e.z.size - (intOf i).toNat)
    case atStart=>exact ⟨0,rfl,vaj _,vcj _ _ _ _,hI d.out.b⟩
    case round =>
     obtain ⟨k,rfl,hk,n,I⟩:=hrel;have L:=I.out.size;have a9:=qsa r.e.z k;by_cases Y:k < r.e.z.size
     .have kz:(k:Int) < (r.e.z.size:Int):=by omega
      obtain ⟨b,b2,hA,a8,f⟩:=(T.out.below I.out).at_ (i:=k) Y;have f':=fun c s=>f c s
      have j:Hid (dueK r.e.z (k + 1)=if qna r.e.z[k]!.ph && decide (6<=r.e.z[k]!.age) then (dueK r.e.z k).push r.e.z[k]!.id else dueK r.e.z k):=rfl;obtain ⟨u,hu⟩:∃ u,r.e.z[k]! = u:=⟨_,rfl⟩
      rw [hu] at f j;have e0:=f 0 jo;have e1:=f 1 jo;have e2:=f 2 jo;have e3:=f 3 jo;have e4:=f 4 jo;have e5:=f 5 jo;have e6:=f 6 jo;have e7:=f 7 jo;have e8:=f 8 jo;have e9:=f 9 jo;simp only [encE,vac,vaf,vak] at e0 e1 e2 e3 e4 e5 e6 e7 e8 e9;clear f f' hu;obtain ⟨ob,M⟩:∃ o,qna u.ph=o:=⟨_,rfl⟩
      have R:Hid (∀ W,Calls prog 61 #[.int .i64 u.ph] W fun e y=>e=.returned (.bool ob)/\W=y):=fun W=>by have:=qku u.ph W;rw [M] at this;exact this.mono fun e y h=>⟨h.1,h.2.symm⟩
      rw [M] at j;rw [hA];go_upto_region 7 with fail
      obtain ⟨G,N⟩:∃ W,W=wr.alloc (.cells #[.int .i64 u.id,.int .i64 u.ph,.int .i64 u.qu,.int .i64 u.t,.int .i64 u.bal,.int .i64 u.abal,.int .i64 u.seen,.int .i64 u.age,.string u.pay,.slice u.A u.z.size u.c] 58):=⟨_,rfl⟩
      have t:=vaw wr (.cells #[.int .i64 u.id,.int .i64 u.ph,.int .i64 u.qu,.int .i64 u.t,.int .i64 u.bal,.int .i64 u.abal,.int .i64 u.seen,.int .i64 u.age,.string u.pay,.slice u.A u.z.size u.c] 58);have a:=n.alloc (.cells #[.int .i64 u.id,.int .i64 u.ph,.int .i64 u.qu,.int .i64 u.t,.int .i64 u.bal,.int .i64 u.abal,.int .i64 u.seen,.int .i64 u.age,.string u.pay,.slice u.A u.z.size u.c] 58);have m:=hI (qab I.out (.cells #[.int .i64 u.id,.int .i64 u.ph,.int .i64 u.qu,.int .i64 u.t,.int .i64 u.bal,.int .i64 u.abal,.int .i64 u.seen,.int .i64 u.age,.string u.pay,.slice u.A u.z.size u.c] 58));rw [<-N] at t a m |-
      have d0:G.cell? ⟨wr.heap.size,0,none⟩=some (.int .i64 u.id):=(vas G _ 0 _ _ (0,0) t).trans rfl;have d1:G.cell? ⟨wr.heap.size,1,none⟩=some (.int .i64 u.ph):=(vas G _ 1 _ _ (0,0) t).trans rfl;have d7:G.cell? ⟨wr.heap.size,7,none⟩=some (.int .i64 u.age):=(vas G _ 7 _ _ (0,0) t).trans rfl;clear e0 e1 e2 e3 e4 e5 e6 e7 e8 e9 t N n I L;have L:=m.out.size;cases ob
      .have B:Hid (dueK r.e.z (k + 1)=dueK r.e.z k):=by show _=_;rw [j.out];rfl
       go_wp2_with (go_at_call 61;refine (R.out _).mono ?_;rintro _ _ ⟨rfl,rfl⟩);go_roundw
       case rel=>exact ⟨k + 1,by go_num,by omega,by rw [B.out];exact a,m⟩
       case measure=>simp [intOf];omega
      by_cases O:6<=u.age
      .have Q:Hid (dueK r.e.z (k + 1)=(dueK r.e.z k).push u.id):=by show _=_;rw [j.out];simp [O]
       have U:decide (6<=u.age)=true:=vah O;clear j
       go_wp2_with (first
        | (go_at_call 61;refine (R.out _).mono ?_;rintro _ _ ⟨rfl,rfl⟩)
        | (at_builtin;refine vay _ rfl _ _ 26 rfl w.heap.size 3 j0 (.int .i64 0) 1 8 underlying26 X a2 a3 a4 rfl jd _ _ _ rfl (World.ownsRow.alloc a _) ⟨G.heap.size,0,none⟩ 1 1 [.int .i64 u.id] rfl rfl (qdr _ _ _) jV jl jo jso ?_;intro v' w4 F E _;have P:=hI (qcr m.out a E)))
       go_roundw
       case rel=>exact ⟨k + 1,by go_num,by omega,by rw [Q.out];simpa using F,P⟩
       case measure=>simp [intOf];omega
      have B:Hid (dueK r.e.z (k + 1)=dueK r.e.z k):=by show _=_;rw [j.out];simp [O]
      have U:decide (6<=u.age)=false:=vab O;clear j;go_wp2_with (go_at_call 61;refine (R.out _).mono ?_;rintro _ _ ⟨rfl,rfl⟩);go_roundw
      case rel=>exact ⟨k + 1,by go_num,by omega,by rw [B.out];exact a,m⟩
      case measure=>simp [intOf];omega
     have a5:decide ((k:Int) < (r.e.z.size:Int))=false:=vab jo;obtain rfl:k=r.e.z.size:=by omega
     go_wp2;go_ret;exact ⟨⟨_,rfl,by rw [l.out];exact n⟩,I.out⟩
   have b1:(r.ticks.tmod (8 * r.n) != 0)=true:=by simp [t]
   rw [vao (fun h=>t h.2)] at l;go_wp2_with (go_at_call 15;refine (H.out _ z.out.b).mono ?_;rintro _ w1 ⟨rfl,q⟩;have d:=hI (z.out.next q);clear q x1 x2;have c0:=d.out.at_ 0 J.out;have c6:=d.out.at_ 6 K.out);go_ret;exact ⟨⟨_,rfl,by rw [l.out];exact vcj _ _ _ _⟩,d.out.b⟩
  rw [qev s] at H;rw [vao (fun h=>s h.1)] at l;clear s;go_wp2_with (go_at_call 15;refine (H.out _ z.out.b).mono ?_;rintro _ w1 ⟨rfl,q⟩;have d:=hI (z.out.next q);clear q x1 x2);go_ret;exact ⟨⟨_,rfl,by rw [l.out];exact vcj _ _ _ _⟩,d.out.b⟩
 exact C _ g
def ageE (e:EN):EN:=if qna e.ph then { e with age:=min (e.age + 1) 1000000 } else e
def ageK (d:Array EN):Nat->Array EN
 | 0=>d
 | k + 1=>(ageK d k).setIfInBounds k (ageE d[k]!)
theorem qdk (d:Array EN) (k:Nat):(ageK d k).size=d.size:=by
 induction k with
 | zero=>rfl
 | succ k ih=>unfold ageK;rw [Array.size_setIfInBounds,ih]
theorem qhx (d:Array EN) (k:Nat) {i:Nat} (hi:i < d.size):(ageK d k)[i]! = if i < k then ageE d[i]! else d[i]!:=by
 induction k with
 | zero=>rfl
 | succ k ih =>
   unfold ageK;by_cases h:i=k
   .subst h
    rw [getElem!_set_same _ i _ (by rw [qdk];exact hi),vam jo]
   rw [vbx,vbb,vao (Ne.symm h),<-vbx,ih];by_cases a:i < k
   .rw [vam a,vam jo]
   rw [vao a,vao jo]
def AgedR (r s:RP):Prop:=(chkR r=false/\s=r)\/(chkR r=true/\s={ r with ticks:=min (r.ticks + 1) 1000000,e:=s.e }/\s.e.z=ageK r.e.z r.e.z.size)
theorem qzw {α:Type} [Inhabited α] {en:α->List Value} {k:Nat} (a:Array α) (i c:Nat) (x:α) (hi:i < a.size) (r:c < k) (s:∀ h,h < k->h≠c->(en x)[h]! = (en a[i]!)[h]!) :
 (flatK en k (a.setIfInBounds i x)).toList=(flatK en k a).toList.set (i * k + c) (en x)[c]!:=by
 have p:(a.setIfInBounds i x).size=a.size:=by simp
 have m:∀ d:Array α,(flatK en k d).toList.length=d.size * k:=fun d=>by rw [ved,size_flatK]
 apply vec;intro t;simp only [List.getElem?_set,m];rcases val t (a.size * k) with g | g
 .have q:∀ d:Array α,d.size=a.size->(flatK en k d).toList[t]?=some (en d[t / k]!)[t % k]!:=fun d o=>by
   have b:t < (flatK en k d).size:=by rw [size_flatK,o];exact g
   rw [vbh,vbe b,<-vae _ t b,get_flatK _ _ _ _ (by rw [o];exact g)]
  rw [q _ p,q _ rfl];have j:k * (t / k) + t % k=t:=Nat.div_add_mod t k;have n:i * k=k * i:=Nat.mul_comm i k;by_cases f:t / k=i
  .have e:(a.setIfInBounds i x)[t / k]! = x:=by rw [f];exact getElem!_set_same a i x hi
   rw [e];rw [f] at j;by_cases b:t % k=c
   .rw [vam jo,vam jo,b]
   rw [vao jo,s _ (Nat.mod_lt _ jo) b,f]
  have e:(a.setIfInBounds i x)[t / k]! = a[t / k]!:=by
   rw [vbx,vbx,vbb,vao (Ne.symm f)]
  rw [e,vao];intro b;apply f;rw [<-b,n,Nat.mul_add_div jo,Nat.div_eq_of_lt r,vak]
 have l:(i + 1) * k<=a.size * k:=vce k hi;rw [vdx] at l;rw [vao jo,vbr (by rw [m,p];exact g),vbr (by rw [m];exact g)]
theorem own_e {W:World} {B K n cK:Nat} {a:Array EN} (h:W.ownsRow B 58 10 (.slice (some ⟨K,0,none⟩) n cK) n (flatK encE 10 a).toList) (d:a.size=n) {i:Nat} (hi:i < n) (c:Nat) (e:c < 10):W.cell? ⟨K,i * 10 + c,none⟩=some (encE a[i]!)[c]!:=by
 have b:i * 10 + c < (flatK encE 10 a).size:=by rw [size_flatK,d];omega
 rw [h.cellAt _ jo,vbh,vbe b,<-vae (flatK encE 10 a) _ b,get_flatK _ _ _ _ (by rw [d];omega),show (i * 10 + c) / 10=i by omega,show (i * 10 + c) % 10=c by omega]
theorem own_age {W:World} {B K n cK k:Nat} {d:Array EN} (h:W.ownsRow B 58 10 (.slice (some ⟨K,0,none⟩) n cK) n (flatK encE 10 (ageK d k)).toList) (j:d.size=n) (i:k < n) (f:qna d[k]!.ph=true) :
 (W.setCell ⟨K,k * 10 + 7,none⟩ (.int .i64 (min (d[k]!.age + 1) 1000000))).ownsRow B 58 10 (.slice (some ⟨K,0,none⟩) n cK) n (flatK encE 10 (ageK d (k + 1))).toList:=by
 have e:(ageK d k)[k]! = d[k]!:=by rw [qhx d k jo,vao jo]
 have b:ageE d[k]! = { d[k]! with age:=min (d[k]!.age + 1) 1000000 }:=by unfold ageE;rw [vam f]
 have:=qzw (en:=encE) (k:=10) (ageK d k) k 7 (ageE d[k]!) (by rw [qdk];omega) jd (fun a g c=>by
  rw [e,b]
  rcases (show a=0\/a=1\/a=2\/a=3\/a=4\/a=5\/a=6\/a=7\/a=8\/a=9 by omega) with rfl | rfl | rfl | rfl | rfl | rfl | rfl | rfl | rfl | rfl <;> first | rfl | exact absurd rfl c)
 show World.ownsRow _ _ _ _ _ _ (flatK encE 10 ((ageK d k).setIfInBounds k (ageE d[k]!))).toList;rw [this,show (encE (ageE d[k]!))[7]! = .int .i64 (min (d[k]!.age + 1) 1000000) by rw [b];rfl];exact (h.stored (k * 10 + 7) _).1
theorem ageK_no {d:Array EN} {k:Nat} (c:k < d.size) (f:qna d[k]!.ph=false):ageK d (k + 1)=ageK d k:=by
 have e:(ageK d k)[k]! = d[k]!:=by rw [qhx d k c,vao jo]
 have g:ageE d[k]! = d[k]!:=by unfold ageE;rw [vao (by rw [f];decide)]
 show (ageK d k).setIfInBounds k (ageE d[k]!)=ageK d k;rw [g,<-e];apply Array.ext js;intro i a b;rw [Array.getElem_setIfInBounds (by simpa using a)];split
 .rename_i h;subst h;exact vae (ageK d k) k b
 rfl
theorem ageE_rd {w:World} {e:EN} (h:RdE0 w e):RdE0 w (ageE e):=by
 unfold ageE;split
 .exact ⟨h.rd,h.cz⟩
 exact h
theorem sep_age {r:RP} {W:World} {A:Option Addr} {c B:Nat} {t:Int} (j:W.ownsRow B 58 10 (.slice A r.e.z.size c) r.e.z.size (flatK encE 10 (ageK r.e.z r.e.z.size)).toList):SepR r B W { r with ticks:=t,e:=⟨A,c,ageK r.e.z r.e.z.size⟩ }:=fun g a m p=>by
 have l:=qdz j (vaa _) m;have f:=qdk r.e.z r.e.z.size;obtain ⟨n,o,e,h,_⟩:=qaq (enc:=encE) (d:=ageK r.e.z r.e.z.size) (by rw [f];exact l);injection e with q1 q2 q3
 subst q1;refine ⟨⟨h,fun i k=>?_⟩,a.o,a.k,a.kk,a.m,a.mm,a.fr,a.d,a.dd,a.it,a.ss⟩;have b:i < r.e.z.size:=by rw [<-f];exact k
 show RdE0 g (ageK r.e.z r.e.z.size)[i]!;rw [qhx _ _ b,vam b];exact ageE_rd (a.e.el i b)
theorem qwu (r:RP) (w:World) (h:RdP w r) (hf:FewC r) :
 Calls prog 26 #[.agg (encP r).toArray] w fun e l=>(∃ s:RP,e=.returned (.agg (encP s).toArray)/\AgedR r s/\SepR r w.heap.size l s)/\Below w.heap.size w l:=by
 have R:Hid (∀ W,Below w.heap.size w W->Calls prog 15 #[.agg (encP r).toArray] W fun e l=>e=.returned (.int .i64 (repE r))/\Below W.heap.size W l):=fun W g=>qcx r W (h.below g) hf
 have d0:=hf.es;have b3:Hid (∀ W,Below w.heap.size w W->Calls prog 62 #[.slice r.e.A r.e.z.size r.e.c] W fun e l=>∃ A c,e=.returned (.slice A r.e.z.size c)/\l.ownsRow W.heap.size 58 10 (.slice A r.e.z.size c) r.e.z.size (flatK encE 10 r.e.z).toList/\Below W.heap.size W l):=fun W g =>
  (CloneN r.e.A r.e.c r.e.z W (h.e.below g).rd jo).mono fun e l ⟨v,he,ho,c0⟩=>by
    obtain ⟨A,c,rfl⟩:=qli ho;exact ⟨A,c,he,ho,c0⟩
 obtain ⟨H,b⟩:∃ H,H=(encP r).toArray:=⟨_,rfl⟩
 obtain ⟨O,c4⟩:=rowP b;have S:=hI b;have b5:Hid (H[6]?=some (.int .i64 r.ticks)):=by show _=_;rw [b];rfl
 have b6:Hid (H[7]?=some (.slice r.e.A r.e.z.size r.e.c)):=by show _=_;rw [b];rfl
 have HT:=hI (fun B:chkR r=true=>(qbo r).1 B);rw [<-b] at R;clear h hf;have N:∀ x:Array Value,H=x->Calls prog 26 #[.agg x] w fun e l=>(∃ s:RP,e=.returned (.agg (encP s).toArray)/\AgedR r s/\SepR r w.heap.size l s)/\Below w.heap.size w l:=by
  rintro _ rfl;simp only [encP] at b;rw [b];go_in;rw [<-b];clear b;have G:=hI (BoxG.fst w H qby 35 35);have HZ:=hI (BoxG.snd w H qby 35 35);simp only [qby] at G HZ;have x1:=G.out.box O;have x2:=G.out.rowAt;by_cases B:chkR r=true
  .rw [qdh B] at R
   have P:=HT.out B;have c2:0<=r.ticks/\r.ticks<=1000000:=⟨P.1.2.2.2.2.2.2.1,P.1.2.2.2.2.2.2.2.1⟩
   have a9:Hid (∀ i,i < r.e.z.size->0<=r.e.z[i]!.age/\r.e.z[i]!.age<=1000000):=fun i hi=>by
    have Q:=(qeo.1 (qwh B)).2 i hi;unfold atT at Q;simp only [vav] at Q;have h2:qgh r.e.z[i]! = true:=by first | exact Q.1 | exact Q.1.1 | exact Q.1.1.1
    have h3:=((qmb _).1 h2).2.1;unfold qoe at h3;omega
   clear P;have a8:IntKind.i64.wrap (r.ticks + 1)=r.ticks + 1:=vcu _ jo;go_upto_region 3 with (go_at_call 15;refine (R.out _ G.out.b).mono ?_;rintro _ w1 ⟨rfl,g⟩;have d:=hI (G.out.next g);have q:=hI (HZ.out.next g);have c5:=q.out.lt;clear g x1 x2;have c6:=d.out.at_ 6 b5.out;have f6:=d.out.froz 6)
   go_upto_region 4 with fail
   obtain ⟨T,hT⟩:∃ T,min (r.ticks + 1) 1000000=T:=⟨_,rfl⟩
   rw [hT];have b7:=hI hT;have b2:=hI B;have m:=hI (d.out.set (vaa _) 6 (.int .i64 T));have E:=hI (q.out.far (g2:=w.heap.size) (vaa _) jo 6 (.int .i64 T));obtain ⟨a2,y⟩:∃ c,c=H.setIfInBounds 6 (.int .i64 T):=⟨_,rfl⟩
   rw [<-y] at m;obtain ⟨w2,a6⟩:∃ W,W=w1.setCell ⟨w.heap.size,6,none⟩ (.int .i64 T):=⟨_,rfl⟩
   rw [<-a6] at m E |-
   have L:=hI y;clear a6 y c6 f6 hT B c2 a8 G HZ d q HT;have a3:=E.out.lt;have q7:a2[7]?=some (.slice r.e.A r.e.z.size r.e.c):=by rw [L.out,vbb,vao jo];exact b6.out
   have Q7:=hI q7;have c7:=m.out.at_ 7 q7;clear q7;go_upto_region 5 with (go_at_call 62;refine (b3.out _ m.out.b).mono ?_;rintro _ w3 ⟨A,c,rfl,a,g⟩;have C:=hI (m.out.next g);have Z:=hI (E.out.next g);have V:=hI a;clear g a c7;have c7:=C.out.at_ 7 Q7.out;have f7:=C.out.froz 7)
   have D:=hI (C.out.set (vaa _) 7 (.slice A r.e.z.size c));have a0:=hI (Z.out.far (g2:=w.heap.size) (vaa _) jo 7 (.slice A r.e.z.size c));have X:=hI (qcm (qdj V.out (show w.heap.size + 2<=w2.heap.size by omega)) (by omega:w.heap.size < w.heap.size + 2) 7 (.slice A r.e.z.size c));obtain ⟨M,f⟩:∃ c',c'=(encP { r with ticks:=T,e:=⟨A,c,ageK r.e.z r.e.z.size⟩ }).toArray:=⟨_,rfl⟩
   have I:a2.setIfInBounds 7 (.slice A r.e.z.size c)=M:=by rw [L.out,S.out,f];simp [encP,qdk]
   rw [I] at D;obtain ⟨w4,a7⟩:∃ W,W=w3.setCell ⟨w.heap.size,7,none⟩ (.slice A r.e.z.size c):=⟨_,rfl⟩
   rw [<-a7] at D a0 X |-
   have b0:=hI f;obtain ⟨J,c1⟩:=rowP f;have a1:Hid (M[7]?=some (.slice A r.e.z.size c)):=by show _=_;rw [f];simp [encP,qdk]
   clear a7 I f c7 f7 m E C Z V a3 L;have c7:=D.out.at_ 7 a1.out;go_upto_region 6 with fail
   clear c7
   go_loopw [3,20] (fun v i wr=>∃ k:Nat,i=.int .i64 k/\k<=r.e.z.size/\wr.ownsRow (w.heap.size + 2) 58 10 (.slice A r.e.z.size c) r.e.z.size (flatK encE 10 (ageK r.e.z k)).toList/\Hid (BoxG w w.heap.size M 35 wr)/\Hid (BoxG w (w.heap.size + 1) qby 35 wr)) (fun _ i _=>r.e.z.size - (intOf i).toNat)
   case atStart=>exact ⟨0,rfl,vaj _,X.out,D,a0⟩
   case round =>
    obtain ⟨k,rfl,hk,a,p,F⟩:=hrel;by_cases t:k < r.e.z.size
    .have kz:(k:Int) < (r.e.z.size:Int):=by omega
     obtain ⟨K,cK,hv,c8,c9⟩:=qif a jo;injection hv with v1 v2 v3
     subst v1 v3;have a4:(ageK r.e.z k)[k]! = r.e.z[k]!:=by rw [qhx _ k t,vao jo]
     have e1:=own_e a (qdk _ _) t 1 jo;have e7:=own_e a (qdk _ _) t 7 jo;rw [a4] at e1 e7;have b9:=a9.out k t;have U:=hI (fun (h:qna r.e.z[k]!.ph=false)=>ageK_no t h);have Y:=hI (fun (h:qna r.e.z[k]!.ph=true)=>own_age a rfl t h);obtain ⟨u,hu⟩:∃ u,r.e.z[k]! = u:=⟨_,rfl⟩
     rw [hu] at e1 e7 b9 U Y;simp only [encE,vac,vaf] at e1 e7;have c7:=p.out.at_ 7 a1.out;have q7:=a.frozenAt (k * 10 + 7);have a8:IntKind.i64.wrap (u.age + 1)=u.age + 1:=vcu _ jo;obtain ⟨ob,z⟩:∃ o,qna u.ph=o:=⟨_,rfl⟩
     have HO:Hid (∀ W,Calls prog 61 #[.int .i64 u.ph] W fun e l=>e=.returned (.bool ob)/\W=l):=fun W=>by have:=qku u.ph W;rw [z] at this;exact this.mono fun e l h=>⟨h.1,h.2.symm⟩
     clear hu a4;cases ob
     .have b4:=hI (U.out z)
      clear z;go_wp2_with (go_at_call 61;refine (HO.out _).mono ?_;rintro _ _ ⟨rfl,rfl⟩);go_roundw
      case rel=>exact ⟨k + 1,by go_num,by omega,by rw [b4.out];exact a,p,F⟩
      case measure=>simp [intOf];omega
     have b8:=hI (Y.out z);clear z;go_upto_region 9 with (go_at_call 61;refine (HO.out _).mono ?_;rintro _ _ ⟨rfl,rfl⟩)
     go_region
     all_goals
      go_wp2;go_roundw
      case rel=>exact ⟨k + 1,by go_num,by omega,b8.out,(p.out.far (g2:=K) jo jo (k * 10 + 7) (.int .i64 (min (u.age + 1) 1000000))).next (vag _ _).drew,(F.out.far (g2:=K) jo jo (k * 10 + 7) (.int .i64 (min (u.age + 1) 1000000))).next (vag _ _).drew⟩
      case measure=>simp [intOf];omega
    have c3:decide ((k:Int) < (r.e.z.size:Int))=false:=vab jo;obtain rfl:k=r.e.z.size:=by omega
    have x1:=p.out.box J;have x2:=p.out.rowAt;have x3:=F.out.box (n:=18) rfl;go_wp2;refine vau (qch rfl rfl (vbz _ _ _ _ _ _ F.out.row) J) rfl ?_;have a5:SepR r (w.heap.size + 2) wr { r with ticks:=T,e:=⟨A,c,ageK r.e.z r.e.z.size⟩ }:=sep_age a;refine ⟨⟨{ r with ticks:=T,e:=⟨A,c,ageK r.e.z r.e.z.size⟩ },by rw [<-b0.out],Or.inr ⟨b2.out,by rw [b7.out],rfl⟩,fun W' hr ha hz=>a5 W' hr (fun j Q h2=>(ha j jo (by simpa using h2)).trans (vbg _ _ j _ jo)) (by simpa using hz)⟩,p.out.b.trans ⟨rfl,rfl,rfl,by simp,fun j hj=>vbg _ _ j _ jo⟩⟩
  rw [qev B] at R;have b1:Hid (chkR r=false):=by show _=_;simpa using B
  clear B;go_wp2_with (go_at_call 15;refine (R.out _ G.out.b).mono ?_;rintro _ w1 ⟨rfl,g⟩;have d:=hI (G.out.next g);have q:=hI (HZ.out.next g);clear g x1 x2;have x1:=d.out.box O;have x2:=d.out.rowAt;have x3:=q.out.box (n:=18) rfl);refine vau (qch rfl rfl (vbz _ _ _ _ _ _ q.out.row) O) rfl ?_;exact ⟨⟨r,by rw [<-S.out],Or.inl ⟨b1.out,rfl⟩,SepR.self _ _ _⟩,d.out.b.trans ⟨rfl,rfl,rfl,by simp,fun j hj=>vbg _ _ j _ jo⟩⟩
 exact N _ b
end
section
attribute [local go_sem ↓] qap qan qbe
attribute [local go_sem] qaw qao qal qbb qbv qbp
def ofM (e:EN):PM:=⟨if qkb e.ph then 5 else 9,0,e.id,if qkb e.ph then e.t else 0,0,0,0,e.qu,e.pay,0,0,none,0,#[],none,0,#[],0⟩
theorem qzx (r:RP) (u:EN) (w:World) (h:RdP w r) (hf:FewC r) :
 Calls prog 63 #[.agg (encP r).toArray,.agg (encE u).toArray] w fun e j=>(∃ v,e=.returned v/\(chkR r=true->j.ownsRow w.heap.size 53 15 v (allO r (ofM u)).length (qmg (allO r (ofM u))))/\(chkR r=false->v=.slice none 0 0))/\Below w.heap.size w j:=by
 have d:Hid (∀ W,Below w.heap.size w W->Calls prog 64 #[.agg (encP r).toArray,.agg (msgC (ofM u))] W fun e j=>(∃ v,e=.returned v/\(chkR r=true->j.ownsRow w.heap.size 53 15 v (allO r (ofM u)).length (qmg (allO r (ofM u))))/\(chkR r=false->v=.slice none 0 0))/\Below W.heap.size W j):=fun W n =>
  (qoo r (ofM u) W (h.below n) hf).mono fun e j ⟨⟨v,he,y,z⟩,V⟩=>⟨⟨v,he,fun q=>qdj (y q) n.size,z⟩,V⟩
 obtain ⟨Z,H⟩:∃ A,allO r (ofM u)=A:=⟨_,rfl⟩
 rw [H] at d |-
 clear H;obtain ⟨cr,I⟩:∃ c,c=chkR r:=⟨_,rfl⟩
 rw [<-I] at d |-
 obtain ⟨E,i⟩:∃ E,E=(encP r).toArray:=⟨_,rfl⟩
 obtain ⟨K,a0⟩:=rowP i;obtain ⟨t,m⟩:∃ t,t=msgC (ofM u):=⟨_,rfl⟩
 have J:t.size=14:=by rw [m];rfl
 rw [<-i,<-m] at d;obtain ⟨Q,C⟩:∃ b,qkb u.ph=b:=⟨_,rfl⟩
 have G:Hid (∀ W,Calls prog 144 #[.int .i64 u.ph] W fun e j=>e=.returned (.bool Q)/\W=j):=fun W=>by have:=qip u.ph W;rw [C] at this;exact this.mono fun e j h=>⟨h.1,h.2.symm⟩
 have o:Hid (t=#[.int .i64 (if Q then 5 else 9),.int .i64 0,.int .i64 u.id,.int .i64 (if Q then u.t else 0),.int .i64 0,.int .i64 0,.int .i64 0,.int .i64 u.qu,.string u.pay,.int .i64 0,.int .i64 0,.slice none 0 0,.slice none 0 0,.int .i64 0]):=by show _=_;rw [m,<-C];rfl
 clear m C h hf I;have B:∀ x:Array Value,E=x->Calls prog 63 #[.agg x,.agg (encE u).toArray] w fun e j=>(∃ v,e=.returned v/\(cr=true->j.ownsRow w.heap.size 53 15 v Z.length (qmg Z))/\(cr=false->v=.slice none 0 0))/\Below w.heap.size w j:=by
  rintro _ rfl;simp only [encP] at i;simp only [encE];rw [i];go_in;rw [<-i];clear i;go_upto_region 1 with fail
  have P:=hI (BoxG.fst w E #[.int .i64 u.id,.int .i64 u.ph,.int .i64 u.qu,.int .i64 u.t,.int .i64 u.bal,.int .i64 u.abal,.int .i64 u.seen,.int .i64 u.age,.string u.pay,.slice u.A u.z.size u.c] 111 58);have p:=hI (BoxG.snd w E #[.int .i64 u.id,.int .i64 u.ph,.int .i64 u.qu,.int .i64 u.t,.int .i64 u.bal,.int .i64 u.abal,.int .i64 u.seen,.int .i64 u.age,.string u.pay,.slice u.A u.z.size u.c] 111 58);obtain ⟨D,L⟩:∃ W,W=((w.alloc (.cells E 111)).alloc (.cells #[.int .i64 u.id,.int .i64 u.ph,.int .i64 u.qu,.int .i64 u.t,.int .i64 u.bal,.int .i64 u.abal,.int .i64 u.seen,.int .i64 u.age,.string u.pay,.slice u.A u.z.size u.c] 58)):=⟨_,rfl⟩
  rw [<-L] at P p |-
  clear L;have d0:=p.out.at_ 0 (v:=.int .i64 u.id) rfl;have d2:=p.out.at_ 2 (v:=.int .i64 u.qu) rfl;have d8:=p.out.at_ 8 (v:=.string u.pay) rfl;go_upto_region 2 with fail
  have O:Hid ((D.alloc (.cells #[.int .i64 9,.int .i64 0,.int .i64 u.id,.int .i64 0,.int .i64 0,.int .i64 0,.int .i64 0,.int .i64 u.qu,.string u.pay,.int .i64 0,.int .i64 0,.slice none 0 0,.slice none 0 0,.int .i64 0] 37)).heap[D.heap.size]?=some (.cells #[.int .i64 9,.int .i64 0,.int .i64 u.id,.int .i64 0,.int .i64 0,.int .i64 0,.int .i64 0,.int .i64 u.qu,.string u.pay,.int .i64 0,.int .i64 0,.slice none 0 0,.slice none 0 0,.int .i64 0] 37 (0,0))):=vaw D _;have f:=hI (P.out.next (bel1 D (.cells #[.int .i64 9,.int .i64 0,.int .i64 u.id,.int .i64 0,.int .i64 0,.int .i64 0,.int .i64 0,.int .i64 u.qu,.string u.pay,.int .i64 0,.int .i64 0,.slice none 0 0,.slice none 0 0,.int .i64 0] 37)));have s:=hI (p.out.next (bel1 D (.cells #[.int .i64 9,.int .i64 0,.int .i64 u.id,.int .i64 0,.int .i64 0,.int .i64 0,.int .i64 0,.int .i64 u.qu,.string u.pay,.int .i64 0,.int .i64 0,.slice none 0 0,.slice none 0 0,.int .i64 0] 37)));have Y:=P.out.lt;have X:=p.out.lt;obtain ⟨w2,M⟩:∃ W,W=D.alloc (.cells #[.int .i64 9,.int .i64 0,.int .i64 u.id,.int .i64 0,.int .i64 0,.int .i64 0,.int .i64 0,.int .i64 u.qu,.string u.pay,.int .i64 0,.int .i64 0,.slice none 0 0,.slice none 0 0,.int .i64 0] 37):=⟨_,rfl⟩
  obtain ⟨g,hg⟩:∃ g,D.heap.size=g:=⟨_,rfl⟩
  rw [<-M] at O f s |-
  rw [hg] at O Y X |-
  have a:Hid (BoxG w g #[.int .i64 9,.int .i64 0,.int .i64 u.id,.int .i64 0,.int .i64 0,.int .i64 0,.int .i64 0,.int .i64 u.qu,.string u.pay,.int .i64 0,.int .i64 0,.slice none 0 0,.slice none 0 0,.int .i64 0] 37 w2):=hI ⟨f.out.b,O.out⟩;clear M hg d0 d2 d8 P p O;have d1:=s.out.at_ 1 (v:=.int .i64 u.ph) rfl;cases Q
  .have e:t=#[.int .i64 9,.int .i64 0,.int .i64 u.id,.int .i64 0,.int .i64 0,.int .i64 0,.int .i64 0,.int .i64 u.qu,.string u.pay,.int .i64 0,.int .i64 0,.slice none 0 0,.slice none 0 0,.int .i64 0]:=o.out
   rw [<-e] at a;clear e;have x1:=f.out.box K;have x2:=f.out.rowAt;have x3:=a.out.box J;have x4:=a.out.rowAt
   go_wp2_with (first
    | (go_at_call 144;refine (G.out _).mono ?_;rintro _ _ ⟨rfl,rfl⟩)
    | (go_at_call 64;refine (d.out _ f.out.b).mono ?_;rintro _ w3 ⟨⟨v,rfl,y,z⟩,n⟩;have R:=hI y;have S:=hI z;have T:=hI (qaa f.out.b n);clear y z n))
   go_ret;exact ⟨⟨_,rfl,R.out,S.out⟩,T.out⟩
  have e:t=((#[.int .i64 9,.int .i64 0,.int .i64 u.id,.int .i64 0,.int .i64 0,.int .i64 0,.int .i64 0,.int .i64 u.qu,.string u.pay,.int .i64 0,.int .i64 0,.slice none 0 0,.slice none 0 0,.int .i64 0]:Array Value).setIfInBounds 0 (.int .i64 5)).setIfInBounds 3 (.int .i64 u.t):=o.out;have e':t=((#[.int .i64 9,.int .i64 0,.int .i64 u.id,.int .i64 0,.int .i64 0,.int .i64 0,.int .i64 0,.int .i64 u.qu,.string u.pay,.int .i64 0,.int .i64 0,.slice none 0 0,.slice none 0 0,.int .i64 0]:Array Value).setIfInBounds 3 (.int .i64 u.t)).setIfInBounds 0 (.int .i64 5):=o.out;have F:=hI e;have U:=hI e';clear e e';have d3:=s.out.at_ 3 (v:=.int .i64 u.t) rfl;have m0:=a.out.at_ 0 (v:=.int .i64 9) rfl;have m3:=a.out.at_ 3 (v:=.int .i64 0) rfl;have f0:=a.out.froz 0;have f3:=a.out.froz 3;go_upto_region 3 with (go_at_call 144;refine (G.out _).mono ?_;rintro _ _ ⟨rfl,rfl⟩)
  go_region;have l:=hI (((a.out.set jo 0 (.int .i64 5)).set jo 3 (.int .i64 u.t)).next (vag _ _).drew);have k:=hI (((f.out.far (g2:=g) jo jo 0 (.int .i64 5)).far (g2:=g) jo jo 3 (.int .i64 u.t)).next (vag _ _).drew);rw [<-F.out] at l;obtain ⟨w5,N⟩:∃ W,W=(((w2.setCell ⟨g,0,none⟩ (.int .i64 5)).setCell ⟨g,3,none⟩ (.int .i64 u.t))).drew:=⟨_,rfl⟩
  rw [<-N] at l k |-
  clear N d1 d3 m0 m3 f0 f3 F U a f;have x1:=k.out.box K;have x2:=k.out.rowAt;have x3:=l.out.box J;have x4:=l.out.rowAt;go_wp2_with (go_at_call 64;refine (d.out _ k.out.b).mono ?_;rintro _ w3 ⟨⟨v,rfl,y,z⟩,n⟩;have R:=hI y;have S:=hI z;have T:=hI (qaa k.out.b n);clear y z n);go_ret;exact ⟨⟨_,rfl,R.out,S.out⟩,T.out⟩
 exact B _ i
end
section
def qmr (t:TypeId) (v x:Value):Sem Unit:=Instr.storeAt t v x
theorem qms (ρ:Operand->Value) (dst:Option Tmp) (x y:Operand) (a:TypeId) (pos:String) (after:Array Edge) (guard:Option (Nat×Bool)) :
 execOp ρ { dst,op:=.store 37 x y,type:=a,pos,after,guard }=(do qmr 37 (ρ x) (ρ y);pure .skip):=rfl
theorem qqc (W:World) (g:Nat) (cs:Array Value) (h:qdd W g 14=true) (a:cs.size=14) (b:qfy cs=true) :
 (qmr 37 (.pointer (some ⟨g,0,none⟩)) (.agg cs)).run prog W=.ok () (W.setRow g cs):=by
 obtain ⟨t,c,d⟩:=qjk h;simp only [qmr,Instr.storeAt,Instr.sureAddr,Sem.run_bind,Sem.run_pure,Result.andThen];exact run_storeVar_row W g t 37 _ cs c (by rw [a];kernel_rfl) (by rw [d,a]) b
theorem quv {W:World} {g:Nat} {cs:Array Value} {T:TypeId} (h:W.heap[g]?=some (.cells cs T (0,0))) (a:cs.size=14):(loadVar 37 ⟨g,0,none⟩).run prog W=.ok (.agg cs) W :=
 vek W g T 37 cs (0,0) _ h underlying37 rfl (by rw [a];kernel_rfl)
theorem qmt {c:Func} {t:Tmp} (e:c.results=#[.cell t 37]) {b:Array Value} {W:World} {g:Nat} {cs:Array Value} {T:TypeId} (f:b.getD t undef=.pointer (some ⟨g,0,none⟩)) (h:W.heap[g]?=some (.cells cs T (0,0))) (d:cs.size=14):(results c b).run prog W=.ok (.agg cs) W:=by
 have a:b[t]?.getD undef=.pointer (some ⟨g,0,none⟩):=by rw [<-vde];exact f
 simp [results,e,a,asAddr,quv h d]
theorem rowM {a:Array Value} {m:PM} (h:a=msgC m):a.size=14/\qfy a=true:=by
 subst h;exact ⟨rfl,by simp [msgC,Value.oneCell',qfy]⟩
attribute [local go_sem ↓] qap qan qbe qms
attribute [local go_sem] qaw qao qal qbb qbv qbp qqc
def qzy (r:RP):Array (Int×Int):=if r.o.z.size<=200 then r.o.z else r.o.z.extract 0 200
structure PrmM (r:RP) (m:PM):Prop where
 h:m.k=10/\m.fr=r.self/\m.id=0/\m.t=0/\m.bal=0/\m.abal=0/\m.ph=0/\m.q=0/\m.pay=⟨#[]⟩/\m.lo=r.floor
 hi:m.hi=if r.o.z.size<=200 then r.clock else r.o.z[200]!.1 - (1:Int)
 ats:m.ats=qzy r
 mks:m.mks=qee r
 dn:m.dn=r.fr.z[r.self.toNat - 1]!
def prmV (r:RP) (p:Nat) (dn hi:Int) (A:Option Addr) (c:Nat) (z:Array (Int×Int)) (x:RW Int):PM:=⟨10,(p:Int) + 1,0,0,0,0,0,0,⟨#[]⟩,r.floor,hi,A,c,z,x.A,x.c,x.z,dn⟩
theorem prmV_ok {r:RP} {p:Nat} {dn hi:Int} {A:Option Addr} {c:Nat} {z:Array (Int×Int)} {x:RW Int} (d:r.self=(p:Int) + 1) (a:r.fr.z[p]! = dn) (e:x.z=qee r) (f:z=qzy r) (b:hi=if r.o.z.size<=200 then r.clock else r.o.z[200]!.1 - (1:Int)):PrmM r (prmV r p dn hi A c z x) :=
 ⟨⟨rfl,d.symm,rfl,rfl,rfl,rfl,rfl,rfl,rfl,rfl⟩,b,f,e,by show dn=_;rw [show r.self.toNat - 1=p by omega,a]⟩
theorem prmV_rd {r:RP} {p:Nat} {dn hi:Int} {A:Option Addr} {c:Nat} {z:Array (Int×Int)} {x:RW Int} {W:World} (a:RdK qae 2 W.heap.size W A z) (b:RdJ W x) (d:z.size<=1000) (e:x.z.size<=1000):RdM W (prmV r p dn hi A c z x) :=
 ⟨a,b.rd,by show z.size<=1000000;omega,by show x.z.size<=1000000;omega,by show (0:Nat)<=1000000;omega⟩
theorem rdK_pre {B:Nat} {w:World} {A:Option Addr} {z:Array (Int×Int)} (h:RdK qae 2 B w A z) (n:Nat) (j:n<=z.size):RdK qae 2 B w A (z.extract 0 n):=fun f=>by
 have a:(z.extract 0 n).size=n:=by simp;omega
 rw [a] at f;obtain ⟨b,d,e,c,g⟩:=h jo;refine ⟨b,d,e,c,fun t i=>?_⟩;rw [a] at i;rw [g t jo,get_flatK _ _ _ _ jo,get_flatK _ _ _ _ (by rw [a];omega)];congr 2;rw [vae _ (t / 2) jo,vae _ (t / 2) (by rw [a];omega)];simp
theorem qjw (r:RP) (w:World) (h:RdP w r) (hf:FewC r) (hc:chkR r=true) :
 Calls prog 28 #[.agg (encP r).toArray] w fun e w'=>(∃ m:PM,e=.returned (.agg (msgC m))/\PrmM r m/\RdM w' m/\FreshA w.heap.size m.aA/\FreshA w.heap.size m.mA)/\Below w.heap.size w w':=by
 have HC:Hid (∀ W,Below w.heap.size w W->Calls prog 15 #[.agg (encP r).toArray] W fun e w'=>e=.returned (.int .i64 0)/\Below W.heap.size W w'):=fun W k=>by
  have:=qcx r W (h.below k) hf
  rwa [qdh hc] at this
 have g2:=(qew hc)
 have g0:=(qay.1 (qjb hc)).2.1;have b9:=(qit.1 (qfo hc)).2.2.1;obtain ⟨p,hp⟩:∃ p:Nat,r.self=(p:Int) + 1:=⟨r.self.toNat - 1,by omega⟩
 have g4:p < r.fr.z.size:=by omega
 obtain ⟨bf,a2,hA,f9,ff⟩:=h.fr.rd jo;have a3:=ff p g4;have g8:=hI h;have f2:=hI h.o.rd;have f3:Hid (200 < r.o.z.size->(0:Int) < r.o.z[200]!.1/\r.o.z[200]!.1<=(1000000:Int)):=fun h2=>by
  have:=b9 r.o.z[200]! (by rw [vae _ 200 h2,<-Array.getElem_toList h2];exact List.getElem_mem _)
  have h3:=(qit.1 (qfo hc)).1;omega
 have e4:=hf.o;have d1:Hid (∀ W,Below w.heap.size w W->W.cell? ⟨bf,a2 + p,none⟩=some (.int .i64 r.fr.z[p]!)):=fun W k=>(k.cell (p:=⟨bf,a2 + p,none⟩) f9).trans a3
 have i1:IntKind.i64.wrap (p:Int)=(p:Int):=vcu _ jo;have h9:(p:Int) < (r.fr.z.size:Int):=by omega
 have c9:Hid (∀ W,Below w.heap.size w W->Calls prog 65 #[.slice r.o.A r.o.z.size r.o.c] W fun e w'=>(∃ A c,e=.returned (.slice A r.o.z.size c)/\RdN qae 2 w' ⟨A,c,r.o.z⟩/\(∀ p,A=some p->W.heap.size<=p.block)/\r.o.z.size<=c)/\Below W.heap.size W w'):=fun W k =>
  (qhm r.o.A r.o.c r.o.z W (h.o.below k).rd jo).mono fun e w' ⟨v,he,ho,o⟩=>by
    obtain ⟨A,c,rfl,hr,g1,g3⟩:=qgl ho;refine ⟨⟨A,c,he,⟨hr,g1⟩,g3,?_⟩,o⟩;obtain ⟨_,⟨h1,h0⟩ | ⟨g,g9,h4,h1,_,_,h7,_⟩⟩:=ho
    .injection h1 with a b c'
     omega
    injection h1 with a b c'
    omega
 have b6:Hid (∀ W,Below w.heap.size w W->Calls prog 18 #[.agg (encP r).toArray] W fun e w'=>(∃ x:RW Int,e=.returned (.slice x.A x.z.size x.c)/\x.z=qee r/\RdJ w' x/\∀ p,x.A=some p->W.heap.size<=p.block)/\Below W.heap.size W w'):=fun W k =>
  (qlh r W (h.below k) hf).mono fun e w' ⟨⟨x,he,hx,hr,hn⟩,o⟩=>⟨⟨x,he,hx,hr,hn⟩,o⟩
 have d2:Hid ((qee r).size<=1000):=by
  show _<=_;unfold qee;rw [vam hc,qbm]
  have:=hf.k
  omega
 have e9:=hI e4;obtain ⟨cs,E⟩:∃ cs,cs=(encP r).toArray:=⟨_,rfl⟩
 obtain ⟨e5,g6⟩:=rowP E;have g7:=hI E;have a6:Hid (cs[2]?=some (.int .i64 ((p:Int) + 1))):=by show _=_;rw [E,<-hp];rfl
 have f0:Hid (cs[3]?=some (.int .i64 r.clock)):=by show _=_;rw [E];rfl
 have f1:Hid (cs[5]?=some (.int .i64 r.floor)):=by show _=_;rw [E];rfl
 have d4:Hid (cs[8]?=some (.slice r.o.A r.o.z.size r.o.c)):=by show _=_;rw [E];rfl
 have d3:Hid (cs[11]?=some (.slice (some ⟨bf,a2,none⟩) r.fr.z.size r.fr.c)):=by show _=_;rw [E,<-hA];rfl
 have HP:=hI hp;rw [<-E] at HC b6;clear h hf hc g2 g0 b9 hp hA ff a3 e4;have c6:∀ x:Array Value,cs=x->Calls prog 28 #[.agg x] w fun e w'=>(∃ m:PM,e=.returned (.agg (msgC m))/\PrmM r m/\RdM w' m/\FreshA w.heap.size m.aA/\FreshA w.heap.size m.mA)/\Below w.heap.size w w':=by
  rintro _ rfl;simp only [encP] at E;rw [E];go_in;rw [<-E];clear E;go_upto_region 1 with fail
  have HX:=hI (BoxG.fst w cs #[.int .i64 0,.int .i64 0,.int .i64 0,.int .i64 0,.int .i64 0,.int .i64 0,.int .i64 0,.int .i64 0,.string ⟨#[]⟩,.int .i64 0,.int .i64 0,.slice none 0 0,.slice none 0 0,.int .i64 0] 35 37);have HZ:=hI (BoxG.snd w cs #[.int .i64 0,.int .i64 0,.int .i64 0,.int .i64 0,.int .i64 0,.int .i64 0,.int .i64 0,.int .i64 0,.string ⟨#[]⟩,.int .i64 0,.int .i64 0,.slice none 0 0,.slice none 0 0,.int .i64 0] 35 37);have x1:=HX.out.box e5;have x2:=HX.out.rowAt;go_upto_region 3 with (go_at_call 15;refine (HC.out _ HX.out.b).mono ?_;rintro _ s ⟨rfl,k⟩;have G:=hI (HX.out.next k);have d5:=hI (HZ.out.next k);clear k x1 x2)
  clear HX HZ HC;obtain ⟨dn,a3⟩:∃ d,r.fr.z[p]! = d:=⟨_,rfl⟩
  rw [a3] at d1;have d0:=hI a3;clear a3;have KS:Hid (∀ W,Below s.heap.size s W->W.cell? ⟨w.heap.size,2,none⟩=some (.int .i64 ((p:Int) + 1))/\W.cell? ⟨w.heap.size,5,none⟩=some (.int .i64 r.floor)/\W.cell? ⟨w.heap.size,3,none⟩=some (.int .i64 r.clock)/\W.cell? ⟨w.heap.size,8,none⟩=some (.slice r.o.A r.o.z.size r.o.c)/\W.cell? ⟨w.heap.size,11,none⟩=some (.slice (some ⟨bf,a2,none⟩) r.fr.z.size r.fr.c)/\W.cell? ⟨bf,a2 + p,none⟩=some (.int .i64 dn)/\qdd W w.heap.size 18=true/\rowAt W w.heap.size=cs):=fun W k=>by
   have hx:=G.out.next k;exact ⟨hx.at_ 2 a6.out,hx.at_ 5 f1.out,hx.at_ 3 f0.out,hx.at_ 8 d4.out,hx.at_ 11 d3.out,d1.out W hx.b,hx.box e5,hx.rowAt⟩
  go_cut [3] from 8 to 26 (fun v3 wx=>∃ (g:Nat) (A:Option Addr) (c:Nat) (x:RW Int),v3=.pointer (some ⟨g,0,none⟩)/\Hid (x.z=qee r)/\Hid (RdN qae 2 wx ⟨A,c,r.o.z⟩)/\Hid (RdJ wx x)/\Hid (((∀ q,A=some q->s.heap.size<=q.block)/\(0 < r.o.z.size->∀ q,A=some q->q.block≠g))/\((∀ q,x.A=some q->s.heap.size<=q.block)/\(0 < x.z.size->∀ q,x.A=some q->q.block≠g))/\r.o.z.size<=c/\s.heap.size<=g)/\Hid (wx.heap[g]?=some (.cells (msgC (prmV r p dn r.clock A c r.o.z x)) 37 (0,0)))/\Hid (Below s.heap.size s wx))
  case first =>
   refine qct (S:=fun W=>W.cell? ⟨w.heap.size,2,none⟩=some (.int .i64 ((p:Int) + 1))/\W.cell? ⟨w.heap.size,5,none⟩=some (.int .i64 r.floor)/\W.cell? ⟨w.heap.size,3,none⟩=some (.int .i64 r.clock)/\W.cell? ⟨w.heap.size,8,none⟩=some (.slice r.o.A r.o.z.size r.o.c)/\W.cell? ⟨w.heap.size,11,none⟩=some (.slice (some ⟨bf,a2,none⟩) r.fr.z.size r.fr.c)/\W.cell? ⟨bf,a2 + p,none⟩=some (.int .i64 dn)/\qdd W w.heap.size 18=true/\rowAt W w.heap.size=cs) jk ?_;have Y:Below s.heap.size s s.drew:=(vag _ _).drew;have B:=KS.out _ Y;refine tkG 8 0 B ?_ (ha:=tzq);refine tkG 9 1 B ?_ (ha:=tzq);refine tkG 10 2 B ?_ (ha:=tzq);refine tkG 11 3 B ?_ (ha:=tzq);refine tkG 12 4 B ?_ (ha:=tzq);refine tkG 13 5 B ?_ (ha:=tzq);refine tkG 14 6 B ?_ (ha:=tzq);refine tkG 15 7 B ?_ (ha:=tzq);refine qht (some 17) (i:=9) (v:=.agg cs) rfl rfl jk jk jk (fun _ _ _ h=>h) (Or.inl ⟨by rfl,fun W hW=>qeq rfl hW.2.2.2.2.2.2.1 hW.2.2.2.2.2.2.2⟩) B ?_;simp only [Act.put,sA,s0,s1];refine tkG 19 11 B ?_ (ha:=tzq);refine tkG 20 12 B ?_ (ha:=tzq);refine tkG 21 13 B ?_ (ha:=tzq);refine tkG 22 14 B ?_ (ha:=tzq);refine tkG 23 15 B ?_ (ha:=tzq);refine tkG 24 16 B ?_ (ha:=tzq);refine tkG 25 17 B ?_ (ha:=tzq);refine qdt (rs:=[8,19]) jk js (AllReadyE.cons rfl (fun K' H=>?_) (AllReadyE.cons rfl (fun K' H=>?_) AllReadyE.nil))
   .go_simp
    refine (c9.out _ (qaa G.out.b Y)).mono ?_;rintro _ w2 ⟨⟨A,c,rfl,b1,P,O⟩,k⟩;have o:Below s.heap.size s w2:=qaa Y k;have X:=hI b1;have b4:=hI O;refine H.out _ _ (KS.out _ o) (fun _=>?_);have b3:Hid (∀ q,A=some q->s.heap.size<=q.block):=fun q u=>vax Y.size (P q u)
    clear H K' B b1 P k O;have B:=KS.out _ o;refine qdt (rs:=[10,19]) jk js (AllReadyE.cons rfl (fun K' H=>?_) (AllReadyE.cons rfl (fun K' H=>?_) AllReadyE.nil))
    .go_simp
     refine (b6.out _ (qaa G.out.b o)).mono ?_;rintro _ F ⟨⟨x,rfl,a0,Z,M⟩,k⟩;have D:Below s.heap.size s F:=qaa o k;have L:=hI a0;have T:=hI Z;refine H.out _ _ (KS.out _ D) (fun _=>?_);have a5:=hI (X.out.below k);have a7:Hid (∀ q,x.A=some q->s.heap.size<=q.block):=fun q u=>vax o.size (M q u)
     clear H K' B a0 Z M k;have B:=KS.out _ D;obtain ⟨C,l⟩:∃ C,C=msgC (prmV r p dn r.clock A c r.o.z x):=⟨_,rfl⟩
     obtain ⟨I,a1⟩:=rowM l;have R:Hid (C=#[.int .i64 10,.int .i64 ((p:Int) + 1),.int .i64 0,.int .i64 0,.int .i64 0,.int .i64 0,.int .i64 0,.int .i64 0,.string ⟨#[]⟩,.int .i64 r.floor,.int .i64 r.clock,.slice A r.o.z.size c,.slice x.A x.z.size x.c,.int .i64 dn]):=l;have V:=hI l;clear l;refine qht (some 26) (i:=18) (v:=.agg C) rfl rfl jk jk jk (fun _ _ _ h=>h) (Or.inl ⟨by rfl,fun W hW=>by rw [R.out];go_simp⟩) B ?_;simp only [Act.put,sA,s0,s1];refine rdy1 19 rfl (fun K N=>?_);go_simp;refine N.out _ _ (KS.out _ (qab D _)) (fun _=>?_);clear N K B;have HQ:Hid ((F.alloc (.cells #[.int .i64 0,.int .i64 0,.int .i64 0,.int .i64 0,.int .i64 0,.int .i64 0,.int .i64 0,.int .i64 0,.string ⟨#[]⟩,.int .i64 0,.int .i64 0,.slice none 0 0,.slice none 0 0,.int .i64 0] 37)).heap[F.heap.size]?=some (.cells #[.int .i64 0,.int .i64 0,.int .i64 0,.int .i64 0,.int .i64 0,.int .i64 0,.int .i64 0,.int .i64 0,.string ⟨#[]⟩,.int .i64 0,.int .i64 0,.slice none 0 0,.slice none 0 0,.int .i64 0] 37 (0,0))):=vaw F _;have Q:Hid (Below s.heap.size s (F.alloc (.cells #[.int .i64 0,.int .i64 0,.int .i64 0,.int .i64 0,.int .i64 0,.int .i64 0,.int .i64 0,.int .i64 0,.string ⟨#[]⟩,.int .i64 0,.int .i64 0,.slice none 0 0,.slice none 0 0,.int .i64 0] 37))):=qab D _;have J:=hI (a5.out.below (bel1 F (.cells #[.int .i64 0,.int .i64 0,.int .i64 0,.int .i64 0,.int .i64 0,.int .i64 0,.int .i64 0,.int .i64 0,.string ⟨#[]⟩,.int .i64 0,.int .i64 0,.slice none 0 0,.slice none 0 0,.int .i64 0] 37)));have U:=hI (T.out.below (bel1 F (.cells #[.int .i64 0,.int .i64 0,.int .i64 0,.int .i64 0,.int .i64 0,.int .i64 0,.int .i64 0,.int .i64 0,.string ⟨#[]⟩,.int .i64 0,.int .i64 0,.slice none 0 0,.slice none 0 0,.int .i64 0] 37)));obtain ⟨g,hg⟩:∃ g,F.heap.size=g:=⟨_,rfl⟩
     have f:Hid (((∀ q,A=some q->s.heap.size<=q.block)/\(0 < r.o.z.size->∀ q,A=some q->q.block≠g))/\((∀ q,x.A=some q->s.heap.size<=q.block)/\(0 < x.z.size->∀ q,x.A=some q->q.block≠g))/\r.o.z.size<=c/\s.heap.size<=g):=⟨⟨b3.out,fun h0 q u=>by obtain ⟨b,of,e,b0,_⟩:=a5.out.rd h0;have e':A=some ⟨b,of,none⟩:=e;rw [u] at e';injection e' with e';have:b < F.heap.size:=b0;rw [e',<-hg];show b≠_;omega⟩,⟨a7.out,fun h0 q u=>by obtain ⟨b,of,e,b0,_⟩:=T.out.rd h0;have e':x.A=some ⟨b,of,none⟩:=e;rw [u] at e';injection e' with e';have:b < F.heap.size:=b0;rw [e',<-hg];show b≠_;omega⟩,b4.out,by rw [<-hg];exact D.size⟩
     obtain ⟨W5,a8⟩:∃ W,W=F.alloc (.cells #[.int .i64 0,.int .i64 0,.int .i64 0,.int .i64 0,.int .i64 0,.int .i64 0,.int .i64 0,.int .i64 0,.string ⟨#[]⟩,.int .i64 0,.int .i64 0,.slice none 0 0,.slice none 0 0,.int .i64 0] 37):=⟨_,rfl⟩
     rw [<-a8] at HQ Q J U |-
     rw [hg] at HQ |-
     clear a8 hg a5 T D o X;have B:=KS.out _ Q.out;have a9:=qdi W5 g _ _ C HQ.out (by rw [I];rfl) a1;refine rdyL 20 rfl (fun K N=>?_);go_simp;refine N.out _ _ ?_;clear N K B a9;refine qbw jk ?_ _;go_wp2;go_meet;have y:∀ b:Nat,b≠g->(W5.setRow g C).heap[b]?=W5.heap[b]?:=fun b k=>vbg _ _ b _ k
     have z:(W5.setRow g C).heap.size=W5.heap.size:=by simp
     refine ⟨g,A,c,x,rfl,L,J.out.farG z f.out.1.2 y,U.out.farG z f.out.2.1.2 y,f,?_,?_⟩
     .show _=_;rw [<-V.out];exact vbz _ _ _ _ _ _ HQ.out
     exact Q.out.trans ⟨rfl,rfl,rfl,by simp,fun j hj=>vbg _ _ j _ (jg f.out.2.2.2)⟩
    go_simp;refine H.out _ _ (KS.out _ (qab o _)) (fun _=>?_);clear H K' B;refine rdy1 10 rfl (fun K N=>?_);go_simp;refine (b6.out _ (qaa G.out.b (qab o _))).mono ?_;rintro _ F ⟨⟨x,rfl,a0,Z,M⟩,k⟩;have D:Below s.heap.size s F:=qaa (qab o _) k;have L:=hI a0;have T:=hI Z;refine N.out _ _ (KS.out _ D) (fun _=>?_);clear N K;have J:=hI ((X.out.below (bel1 w2 _)).below k);have a7:Hid (∀ q,x.A=some q->s.heap.size<=q.block):=fun q u=>vax (qab o _).size (M q u)
    obtain ⟨g,hg⟩:∃ g,w2.heap.size=g:=⟨_,rfl⟩
    have HQ:Hid (F.heap[g]?=some (.cells #[.int .i64 0,.int .i64 0,.int .i64 0,.int .i64 0,.int .i64 0,.int .i64 0,.int .i64 0,.int .i64 0,.string ⟨#[]⟩,.int .i64 0,.int .i64 0,.slice none 0 0,.slice none 0 0,.int .i64 0] 37 (0,0))):=by show _=_;rw [<-hg];exact (k.block w2.heap.size js).trans (vaw w2 _)
    have f:Hid (((∀ q,A=some q->s.heap.size<=q.block)/\(0 < r.o.z.size->∀ q,A=some q->q.block≠g))/\((∀ q,x.A=some q->s.heap.size<=q.block)/\(0 < x.z.size->∀ q,x.A=some q->q.block≠g))/\r.o.z.size<=c/\s.heap.size<=g):=⟨⟨b3.out,fun h0 q u=>by obtain ⟨b,of,e,b0,_⟩:=X.out.rd h0;have e':A=some ⟨b,of,none⟩:=e;rw [u] at e';injection e' with e';have:b < w2.heap.size:=b0;rw [e',<-hg];show b≠_;omega⟩,⟨a7.out,fun h0 q u=>by have:=M q u;simp at this;omega⟩,b4.out,by rw [<-hg];exact o.size⟩
    rw [hg];have Q:=hI D;have U:=T;clear hg k a0 Z M T X o D;have B:=KS.out _ Q.out;obtain ⟨C,l⟩:∃ C,C=msgC (prmV r p dn r.clock A c r.o.z x):=⟨_,rfl⟩
    obtain ⟨I,a1⟩:=rowM l;have R:Hid (C=#[.int .i64 10,.int .i64 ((p:Int) + 1),.int .i64 0,.int .i64 0,.int .i64 0,.int .i64 0,.int .i64 0,.int .i64 0,.string ⟨#[]⟩,.int .i64 r.floor,.int .i64 r.clock,.slice A r.o.z.size c,.slice x.A x.z.size x.c,.int .i64 dn]):=l;have V:=hI l;clear l;refine qht (some 26) (i:=18) (v:=.agg C) rfl rfl jk jk jk (fun _ _ _ h=>h) (Or.inl ⟨by rfl,fun W hW=>by rw [R.out];go_simp⟩) B ?_;simp only [Act.put,sA,s0,s1];have a9:=qdi F g _ _ C HQ.out (by rw [I];rfl) a1;refine rdyL 20 rfl (fun K N=>?_);go_simp;refine N.out _ _ ?_;clear N K B a9;refine qbw jk ?_ _;go_wp2;go_meet;have y:∀ b:Nat,b≠g->(F.setRow g C).heap[b]?=F.heap[b]?:=fun b k=>vbg _ _ b _ k
    have z:(F.setRow g C).heap.size=F.heap.size:=by simp
    refine ⟨g,A,c,x,rfl,L,J.out.farG z f.out.1.2 y,U.out.farG z f.out.2.1.2 y,f,?_,?_⟩
    .show _=_;rw [<-V.out];exact vbz _ _ _ _ _ _ HQ.out
    exact Q.out.trans ⟨rfl,rfl,rfl,by simp,fun j hj=>vbg _ _ j _ (jg f.out.2.2.2)⟩
   go_simp;refine H.out _ _ (KS.out _ (qab Y _)) (fun _=>?_);clear H K' B;refine rdy1 8 rfl (fun K N=>?_);go_simp;refine (c9.out _ (qaa G.out.b (qab Y _))).mono ?_;rintro _ w2 ⟨⟨A,c,rfl,b1,P,O⟩,k⟩;have o:Below s.heap.size s w2:=qaa (qab Y _) k;have X:=hI b1;have b4:=hI O;refine N.out _ _ (KS.out _ o) (fun _=>?_);clear N K;have b3:Hid (∀ q,A=some q->s.heap.size<=q.block):=fun q u=>vax (qab Y _).size (P q u)
   obtain ⟨g,hg⟩:∃ g,s.heap.size=g:=⟨_,rfl⟩
   have a6:Hid (w2.heap[g]?=some (.cells #[.int .i64 0,.int .i64 0,.int .i64 0,.int .i64 0,.int .i64 0,.int .i64 0,.int .i64 0,.int .i64 0,.string ⟨#[]⟩,.int .i64 0,.int .i64 0,.slice none 0 0,.slice none 0 0,.int .i64 0] 37 (0,0))):=by show _=_;rw [<-hg];exact (k.block s.drew.heap.size js).trans (vaw s.drew _)
   have e1:g < w2.heap.size:=qbi a6.out;have c7:Hid (∀ q,A=some q->q.block≠g):=fun q u=>by have:=P q u;simp at this;omega
   rw [hg];clear k b1 P O;refine rdy1 10 rfl (fun K N=>?_);go_simp;refine (b6.out _ (qaa G.out.b o)).mono ?_;rintro _ F ⟨⟨x,rfl,a0,Z,M⟩,k⟩;have D:Below s.heap.size s F:=qaa o k;have L:=hI a0;have T:=hI Z;refine N.out _ _ (KS.out _ D) (fun _=>?_);clear N K;have J:=hI (X.out.below k);have a7:Hid (∀ q,x.A=some q->s.heap.size<=q.block):=fun q u=>vax o.size (M q u)
   have HQ:Hid (F.heap[g]?=some (.cells #[.int .i64 0,.int .i64 0,.int .i64 0,.int .i64 0,.int .i64 0,.int .i64 0,.int .i64 0,.int .i64 0,.string ⟨#[]⟩,.int .i64 0,.int .i64 0,.slice none 0 0,.slice none 0 0,.int .i64 0] 37 (0,0))):=hI ((k.block g e1).trans a6.out);have f:Hid (((∀ q,A=some q->s.heap.size<=q.block)/\(0 < r.o.z.size->∀ q,A=some q->q.block≠g))/\((∀ q,x.A=some q->s.heap.size<=q.block)/\(0 < x.z.size->∀ q,x.A=some q->q.block≠g))/\r.o.z.size<=c/\s.heap.size<=g):=⟨⟨b3.out,fun h0 q u=>c7.out q u⟩,⟨a7.out,fun h0 q u=>by have:=M q u;omega⟩,b4.out,by omega⟩
   have Q:=hI D;have U:=T;clear hg k a0 Z M T X a6 e1 c7 o D;have B:=KS.out _ Q.out;obtain ⟨C,l⟩:∃ C,C=msgC (prmV r p dn r.clock A c r.o.z x):=⟨_,rfl⟩
   obtain ⟨I,a1⟩:=rowM l;have R:Hid (C=#[.int .i64 10,.int .i64 ((p:Int) + 1),.int .i64 0,.int .i64 0,.int .i64 0,.int .i64 0,.int .i64 0,.int .i64 0,.string ⟨#[]⟩,.int .i64 r.floor,.int .i64 r.clock,.slice A r.o.z.size c,.slice x.A x.z.size x.c,.int .i64 dn]):=l;have V:=hI l;clear l;refine qht (some 26) (i:=18) (v:=.agg C) rfl rfl jk jk jk (fun _ _ _ h=>h) (Or.inl ⟨by rfl,fun W hW=>by rw [R.out];go_simp⟩) B ?_;simp only [Act.put,sA,s0,s1];have a9:=qdi F g _ _ C HQ.out (by rw [I];rfl) a1;refine rdyL 20 rfl (fun K N=>?_);go_simp;refine N.out _ _ ?_;clear N K B a9;refine qbw jk ?_ _;go_wp2;go_meet;have y:∀ b:Nat,b≠g->(F.setRow g C).heap[b]?=F.heap[b]?:=fun b k=>vbg _ _ b _ k
   have z:(F.setRow g C).heap.size=F.heap.size:=by simp
   refine ⟨g,A,c,x,rfl,L,J.out.farG z f.out.1.2 y,U.out.farG z f.out.2.1.2 y,f,?_,?_⟩
   .show _=_;rw [<-V.out];exact vbz _ _ _ _ _ _ HQ.out
   exact Q.out.trans ⟨rfl,rfl,rfl,by simp,fun j hj=>vbg _ _ j _ (jg f.out.2.2.2)⟩
  case rest =>
   obtain ⟨g,A,c,x,rfl,L,J,U,f,HG,HB⟩:=hcut;have c2:=hI (G.out.next HB.out);have c4:=hI (d5.out.next HB.out);have h6:=d5.out.lt;have i0:=HB.out.size;have e2:=f.out.2.2.2;have c8:=c2.out.at_ 8 d4.out;by_cases hl:r.o.z.size<=200
   .have e3:decide (200 < (r.o.z.size:Int))=false:=vab jo
    have c1:Hid (r.o.z=qzy r):=by show _=_;unfold qzy;rw [vam hl]
    have c0:Hid (r.clock=if r.o.z.size<=200 then r.clock else r.o.z[200]!.1 - (1:Int)):=by show _=_;rw [vam hl]
    obtain ⟨C,l⟩:∃ C,C=msgC (prmV r p dn r.clock A c r.o.z x):=⟨_,rfl⟩
    obtain ⟨I,a1⟩:=rowM l;rw [<-l] at HG;have R:=hI l;have x3:=qdx HG.out I;have x4:=qef HG.out;have x5:=c4.out.box (n:=14) rfl;clear l;go_wp2;refine vau (qmt rfl rfl (vbz _ _ _ _ _ _ c4.out.row) I) rfl ?_;refine ⟨⟨_,by rw [R.out],prmV_ok HP.out d0.out L.out c1.out c0.out,prmV_rd ?_ ?_ e9.out (by rw [L.out];exact d2.out),fun q u=>vax G.out.b.size (f.out.1.1 q u),fun q u=>vax G.out.b.size (f.out.2.1.1 q u)⟩,c2.out.b.trans ⟨rfl,rfl,rfl,by simp,fun j hj=>vbg _ _ j _ jo⟩⟩
    .refine (J.out.farG (g:=w.heap.size + 1) js (fun _ q u=>by have:=f.out.1.1 q u;omega) (fun b k=>vbg _ _ b _ k)).rd
    refine U.out.farG (g:=w.heap.size + 1) js (fun _ q u=>by have:=f.out.2.1.1 q u;omega) (fun b k=>vbg _ _ b _ k)
   have e3:decide (200 < (r.o.z.size:Int))=true:=vah jo;have h5:decide ((200:Int) < (r.o.z.size:Int))=true:=e3;obtain ⟨T2,b7⟩:∃ t,r.o.z[200]!.1=t:=⟨_,rfl⟩
   have g5:=f3.out jo;rw [b7] at g5;have c1:Hid (r.o.z.extract 0 200=qzy r):=by show _=_;unfold qzy;rw [vao hl]
   have c0:Hid (T2 - (1:Int)=if r.o.z.size<=200 then r.clock else r.o.z[200]!.1 - (1:Int)):=by show _=_;rw [vao hl,b7]
   obtain ⟨bo,oo,d8,h8,fo⟩:=(f2.out.below c2.out.b).at_ (i:=200) jo;have c5:=fo 0 jo;simp only [qae,vac,vak,Nat.reduceMul] at c5;rw [b7] at c5;rw [d8] at c8;obtain ⟨b2,o2,d6,_,_⟩:=J.out.rd (show 0 < r.o.z.size by omega);have d7:A=some ⟨b2,o2,none⟩:=d6;subst d7;have O:200<=c:=by have:=f.out.2.2.1;omega
   have f8:wc.cell? ⟨g,11,none⟩=some (.slice (some ⟨b2,o2,none⟩) r.o.z.size c):=(vas wc g 11 _ _ (0,0) HG.out).trans rfl;have f7:wc.cell? ⟨g,10,none⟩=some (.int .i64 r.clock):=(vas wc g 10 _ _ (0,0) HG.out).trans rfl;have f6:wc.frozen? ⟨g,11,none⟩=false:=by have:=HG.out;simp [World.frozen?,this]
   have f5:wc.frozen? ⟨g,10,none⟩=false:=by have:=HG.out;simp [World.frozen?,this]
   have i2:IntKind.i64.wrap (T2 - 1)=T2 - 1:=vcu _ jo;have e6:200<=r.o.z.size:=by omega
   clear d6 fo b7 d8;go_wp2;go_region;have e7:BoxG s g (msgC (prmV r p dn r.clock (some ⟨b2,o2,none⟩) c r.o.z x)) 37 wc:=⟨HB.out,HG.out⟩
   have a4:=hI (((e7.set e2 11 (.slice (some ⟨b2,o2,none⟩) 200 c)).set e2 10 (.int .i64 (T2 - (1:Int)))).next (vag _ _).drew);have y:∀ b:Nat,b≠g->(((wc.setCell ⟨g,11,none⟩ (.slice (some ⟨b2,o2,none⟩) 200 c)).setCell ⟨g,10,none⟩ (.int .i64 (T2 - (1:Int)))).drew).heap[b]?=wc.heap[b]?:=fun b k=>(vfa _ _ _ _ k).trans (vfa _ _ _ _ k)
   have b8:(((wc.setCell ⟨g,11,none⟩ (.slice (some ⟨b2,o2,none⟩) 200 c)).setCell ⟨g,10,none⟩ (.int .i64 (T2 - (1:Int)))).drew).heap.size=wc.heap.size:=by simp
   obtain ⟨W5,a8⟩:∃ W,W=(((wc.setCell ⟨g,11,none⟩ (.slice (some ⟨b2,o2,none⟩) 200 c)).setCell ⟨g,10,none⟩ (.int .i64 (T2 - (1:Int)))).drew):=⟨_,rfl⟩
   rw [<-a8] at a4 y b8 |-
   have b5:=hI y;clear a8 y c5 c8 f8 f7 f6 f5;obtain ⟨C,l⟩:∃ C,C=msgC (prmV r p dn (T2 - (1:Int)) (some ⟨b2,o2,none⟩) c (r.o.z.extract 0 200) x):=⟨_,rfl⟩
   obtain ⟨I,a1⟩:=rowM l;have e0:(r.o.z.extract 0 200).size=200:=by simp;omega
   have d9:((msgC (prmV r p dn r.clock (some ⟨b2,o2,none⟩) c r.o.z x)).setIfInBounds 11 (.slice (some ⟨b2,o2,none⟩) 200 c)).setIfInBounds 10 (.int .i64 (T2 - (1:Int)))=C:=by
    rw [l];simp [msgC,prmV,e0]
   rw [d9] at a4;have R:=hI l;have c3:Hid (BoxG w (w.heap.size + 1) #[.int .i64 0,.int .i64 0,.int .i64 0,.int .i64 0,.int .i64 0,.int .i64 0,.int .i64 0,.int .i64 0,.string ⟨#[]⟩,.int .i64 0,.int .i64 0,.slice none 0 0,.slice none 0 0,.int .i64 0] 37 W5):=⟨qaa G.out.b a4.out.b,(b5.out _ jo).trans c4.out.row⟩
   have e8:=hI (J.out.farG b8 f.out.1.2 b5.out);have f4:=hI (U.out.farG b8 f.out.2.1.2 b5.out);have x3:=a4.out.box I;have x4:=a4.out.rowAt;have x5:=c3.out.box (n:=14) rfl;clear l d9 e0 b5 b8;go_wp2;refine vau (qmt rfl rfl (vbz _ _ _ _ _ _ c3.out.row) I) rfl ?_;refine ⟨⟨_,by rw [R.out],prmV_ok HP.out d0.out L.out c1.out c0.out,prmV_rd ?_ ?_ jso (by rw [L.out];exact d2.out),fun q u=>vax G.out.b.size (f.out.1.1 q u),fun q u=>vax G.out.b.size (f.out.2.1.1 q u)⟩,c3.out.b.trans ⟨rfl,rfl,rfl,by simp,fun j hj=>vbg _ _ j _ jo⟩⟩
   .exact rdK_pre (e8.out.farG (g:=w.heap.size + 1) js (fun _ q u=>by have:=f.out.1.1 q u;omega) (fun b k=>vbg _ _ b _ k)).rd 200 e6
   refine f4.out.farG (g:=w.heap.size + 1) js (fun _ q u=>by have:=f.out.2.1.1 q u;omega) (fun b k=>vbg _ _ b _ k)
 exact c6 _ E
end
theorem qmu {w:World} {B:Nat} {e:TypeId} {v:Value} {l:List OU} (h:w.ownsRow B e 15 v l.length (qmg l)):∃ x:RW OU,v=x.v/\x.z=l.toArray/\RdN qde 15 w x/\FreshA B x.A:=by
 have a:w.ownsRow B e 15 v l.toArray.size (flatK qde 15 l.toArray).toList:=by
  rw [qer qrm];simpa [qmg] using h
 obtain ⟨A,c,g,f,d,b⟩:=qgl a;exact ⟨⟨A,c,l.toArray⟩,g,rfl,⟨f,d⟩,b⟩
theorem catO2 (a b:RW OU):catO #[a,b] 2=a.z ++ b.z:=by
 show (#[] ++ a.z) ++ b.z=_;simp
theorem qii (g c:Nat) {T:TypeId} (a b:RW OU) (w:World) (f:w.heap[g]?=some (.cells #[.slice a.A a.z.size a.c,.slice b.A b.z.size b.c] T (0,0))) (p:RdN qde 15 w a) (q:RdN qde 15 w b) (F:a.z.size + b.z.size<=100000) :
 Calls prog 54 #[.slice (some ⟨g,0,none⟩) 2 c] w fun e j=>(∃ x:RW OU,e=.returned (.slice x.A x.z.size x.c)/\x.z=a.z ++ b.z/\RdN qde 15 j x/\FreshA w.heap.size x.A)/\Below w.heap.size w j:=by
 have o:RdK encW 1 w.heap.size w (some ⟨g,0,none⟩) #[a,b]:=fun _=>⟨g,0,rfl,qbi f,fun t h=>by
  have E:t < 2:=by simpa using h
  rcases (show t=0\/t=1 by omega) with rfl | rfl
  .rw [vcc,vas w _ 0 _ _ (0,0) f,get_flatK encW 1 #[a,b] 0 h];rfl
  rw [vcc,vas w _ 1 _ _ (0,0) f,get_flatK encW 1 #[a,b] 1 h];rfl⟩
 have:=qzc (some ⟨g,0,none⟩) c #[a,b] w o (fun i u=>by
  have y:i < 2:=by simpa using u
  rcases (show i=0\/i=1 by omega) with rfl | rfl
  .exact p
  .exact q) (show 2<=1000 by decide) (fun k z=>by
  have B:k<=2:=by simpa using z
  rcases (show k=0\/k=1\/k=2 by omega) with rfl | rfl | rfl
  .show (#[]:Array OU).size<=_;simp
  .show (#[] ++ a.z).size<=_;simp;omega
  rw [catO2,vdd];exact F)
 refine this.mono fun e j ⟨v,r,l,d⟩=>?_
 have n:catO #[a,b] (#[a,b]:Array (RW OU)).size=a.z ++ b.z:=catO2 a b;rw [n] at l;obtain ⟨A,m,rfl,D,C,s⟩:=qgl l;exact ⟨⟨⟨A,m,a.z ++ b.z⟩,r,rfl,⟨D,C⟩,s⟩,d⟩
theorem qqd (r:RP) (a:r.n<=9) (m:PM):(allO r m).length<=9:=by
 unfold allO qpr;rw [List.length_map,ved]
 have:=qme r.self r.n.toNat
 omega
def qjx (r:RP):Nat->List OU
 | 0=>[]
 | k + 1=>qjx r k ++ allO r (ofM r.e.z[k]!)
theorem qsb (r:RP) (a:r.n<=9) (k:Nat):(qjx r k).length<=9 * k:=by
 induction k with
 | zero=>exact vaa _
 | succ k ih =>
   have:=qqd r a (ofM r.e.z[k]!)
   unfold qjx;rw [vdk];omega
section
attribute [local go_sem ↓] qap qan qbe
attribute [local go_sem] qaw qao qal qbb qbv qbp
def ToldR (r:RP) (B:Nat) (x:RW OU) (pm:PM) (W:World):Prop:=x.z=(qjx r r.e.z.size ++ allO r pm).toArray/\PrmM r pm/\RdM W pm/\RdN qde 15 W x/\FreshA B x.A/\FreshA B pm.aA/\FreshA B pm.mA
theorem qsc (r:RP) (w:World) (h:RdP w r) (hf:FewC r) (hc:chkR r=true) :
 Calls prog 27 #[.agg (encP r).toArray] w fun e o=>(∃ (x:RW OU) (j:PM),e=.returned (.slice x.A x.z.size x.c)/\ToldR r w.heap.size x j o)/\Below w.heap.size w o:=by
 have HC:Hid (∀ W,Below w.heap.size w W->Calls prog 15 #[.agg (encP r).toArray] W fun e o=>e=.returned (.int .i64 0)/\Below W.heap.size W o):=fun W g=>by
  have:=qcx r W (h.below g) hf
  rwa [qdh hc] at this
 have a6:Hid (∀ W,Below w.heap.size w W->Calls prog 28 #[.agg (encP r).toArray] W fun e o=>(∃ (j:PM) (P:Array Value),e=.returned (.agg P)/\P=msgC j/\PrmM r j/\RdM o j/\FreshA W.heap.size j.aA/\FreshA W.heap.size j.mA)/\Below W.heap.size W o):=fun W g =>
  (qjw r W (h.below g) hf hc).mono fun e o ⟨⟨m,a,b,c⟩,d⟩=>⟨⟨m,_,a,rfl,b,c⟩,d⟩
 have C:Hid (∀ (j:PM) (P:Array Value),P=msgC j->∀ W,Below w.heap.size w W->Calls prog 64 #[.agg (encP r).toArray,.agg P] W fun e o=>(∃ y:RW OU,e=.returned (.slice y.A y.z.size y.c)/\y.z=(allO r j).toArray/\RdN qde 15 o y)/\Below W.heap.size W o):=fun j P e W g=>by
  rw [e];refine (qoo r j W (h.below g) hf).mono fun e o ⟨⟨v,he,h1,_⟩,s⟩=>?_
  obtain ⟨y,rfl,hz,hr,_⟩:=qmu (h1 hc);exact ⟨⟨y,he,hz,hr⟩,s⟩
 have T:Hid (∀ (u:EN) W,Below w.heap.size w W->Calls prog 63 #[.agg (encP r).toArray,.agg #[.int .i64 u.id,.int .i64 u.ph,.int .i64 u.qu,.int .i64 u.t,.int .i64 u.bal,.int .i64 u.abal,.int .i64 u.seen,.int .i64 u.age,.string u.pay,.slice u.A u.z.size u.c]] W fun e o=>(∃ y:RW OU,e=.returned (.slice y.A y.z.size y.c)/\y.z=(allO r (ofM u)).toArray/\RdN qde 15 o y)/\Below W.heap.size W o):=fun u W g=>by
  refine (qzx r u W (h.below g) hf).mono fun e o ⟨⟨v,he,h1,_⟩,s⟩=>?_
  obtain ⟨y,rfl,hz,hr,_⟩:=qmu (h1 hc);exact ⟨⟨y,he,hz,hr⟩,s⟩
 have g4:∀ (fn:Fn) (first b3:Array Value) (w:World),(Instr.makeFunc fn first b3).run prog w=.ok (.func fn first b3) w:=fun _ _ _ _=>rfl
 have b8:=(qew hc).1.2;have a5:=hI b8;have f4:=hI h.e.rd;have g3:=hf.es;have a9:Hid (∀ k,(qjx r k).toArray.size<=9 * k):=fun k=>by simpa using qsb r a5.out k
 have Q:Hid (∀ m,(allO r m).toArray.size<=9):=fun m=>by simpa using qqd r a5.out m
 have b0:Hid (∀ k,(qjx r (k + 1)).toArray=(qjx r k).toArray ++ (allO r (ofM r.e.z[k]!)).toArray):=fun k=>by
  show (qjx r k ++ allO r (ofM r.e.z[k]!)).toArray=_;simp
 obtain ⟨t,n⟩:∃ t,t=(encP r).toArray:=⟨_,rfl⟩
 obtain ⟨a3,g1⟩:=rowP n;have c6:Array.foldl (fun (t:Array Value) (x:Value×Nat)=>t.setIfInBounds x.snd x.fst) #[.int .i64 0,.int .i64 0,.int .i64 0,.int .i64 0,.int .i64 0,.int .i64 0,.int .i64 0,.slice none 0 0,.slice none 0 0,.slice none 0 0,.slice none 0 0,.slice none 0 0,.slice none 0 0,.int .i64 0,.int .i64 0,.int .i64 0,.slice none 0 0,.slice none 0 0] t.zipIdx 0 18=t:=by rw [n];exact qrn r
 have f3:Hid (t[7]?=some (.slice r.e.A r.e.z.size r.e.c)):=by show _=_;rw [n];rfl
 obtain ⟨TL,a0⟩:∃ f:Nat->Array OU,f=fun k=>(qjx r k).toArray:=⟨_,rfl⟩
 obtain ⟨AL,b4⟩:∃ f:PM->Array OU,f=fun m=>(allO r m).toArray:=⟨_,rfl⟩
 have N:Hid (∀ k,(qjx r k).toArray=TL k):=fun k=>by rw [a0]
 have M:Hid (∀ m,(allO r m).toArray=AL m):=fun m=>by rw [b4]
 have f6:Hid (TL 0=#[]):=by show _=_;rw [a0];rfl
 simp only [N.out,M.out] at C T a9 Q b0;rw [<-n] at HC a6 C T;clear h hf hc b8 a0 b4;have a2:∀ x:Array Value,t=x->Calls prog 27 #[.agg x] w fun e o=>(∃ (x:RW OU) (j:PM),e=.returned (.slice x.A x.z.size x.c)/\ToldR r w.heap.size x j o)/\Below w.heap.size w o:=by
  rintro _ rfl;simp only [encP] at n;rw [n];go_in;rw [<-n];clear n;have HX:=hI (show BoxG w w.heap.size t 35 (w.alloc (.cells t 35)) from ⟨bel1 w _,vaw w _⟩);have x1:=HX.out.box a3;have x2:=HX.out.rowAt;go_upto_region 6 with (go_at_call 15;refine (HC.out _ HX.out.b).mono ?_;rintro _ w1 ⟨rfl,g⟩;have A:=hI (HX.out.next g);clear g x1 x2;have x1:=A.out.box a3;have x2:=A.out.rowAt;have c7:=A.out.at_ 7 f3.out)
  clear c6 HC HX c7 x1 x2
  go_loopw [4,6,16] (fun v p i wr=>∃ (k:Nat) (x:RW OU),v=.slice x.A x.z.size x.c/\i=.int .i64 k/\k<=r.e.z.size/\Hid (x.z=TL k)/\Hid (RdN qde 15 wr x)/\Hid (Below w1.heap.size w1 wr)) (fun _ _ i _=>r.e.z.size - (intOf i).toNat)
  case atStart=>exact ⟨0,⟨none,0,#[]⟩,rfl,rfl,vaj _,f6.out.symm,⟨fun h0=>absurd h0 jd,fun _=>rfl⟩,hI (vag _ _)⟩
  case round =>
   obtain ⟨k,x,rfl,rfl,hk,V,U,HB⟩:=hrel;have q:=hI (A.out.next HB.out);have c8:=HB.out.size;have g5:x.z.size<=9 * k:=by rw [V.out];exact a9.out k
   by_cases f8:k < r.e.z.size
   .have kz:(k:Int) < (r.e.z.size:Int):=by omega
    obtain ⟨b,g6,hA,g2,f⟩:=(f4.out.below (qaa A.out.b HB.out)).at_ (i:=k) f8;have a4:=hI (b0.out k);obtain ⟨u,hu⟩:∃ u,r.e.z[k]! = u:=⟨_,rfl⟩
    rw [hu] at f a4;have e0:=f 0 jo;have e1:=f 1 jo;have e2:=f 2 jo;have e3:=f 3 jo;have e4:=f 4 jo;have e5:=f 5 jo;have e6:=f 6 jo;have e7:=f 7 jo;have e8:=f 8 jo;have e9:=f 9 jo;simp only [encE,vac,vaf,vak] at e0 e1 e2 e3 e4 e5 e6 e7 e8 e9;clear f hu;have c3:=hI (Q.out (ofM u));rw [hA];go_upto_region 8 with fail
    have B:=vaw wr (.cells #[.int .i64 u.id,.int .i64 u.ph,.int .i64 u.qu,.int .i64 u.t,.int .i64 u.bal,.int .i64 u.abal,.int .i64 u.seen,.int .i64 u.age,.string u.pay,.slice u.A u.z.size u.c] 58);have R:=hI (qab HB.out (.cells #[.int .i64 u.id,.int .i64 u.ph,.int .i64 u.qu,.int .i64 u.t,.int .i64 u.bal,.int .i64 u.abal,.int .i64 u.seen,.int .i64 u.age,.string u.pay,.slice u.A u.z.size u.c] 58));have O:=hI (U.out.below (bel1 wr (.cells #[.int .i64 u.id,.int .i64 u.ph,.int .i64 u.qu,.int .i64 u.t,.int .i64 u.bal,.int .i64 u.abal,.int .i64 u.seen,.int .i64 u.age,.string u.pay,.slice u.A u.z.size u.c] 58)));obtain ⟨l,c1⟩:∃ W,W=wr.alloc (.cells #[.int .i64 u.id,.int .i64 u.ph,.int .i64 u.qu,.int .i64 u.t,.int .i64 u.bal,.int .i64 u.abal,.int .i64 u.seen,.int .i64 u.age,.string u.pay,.slice u.A u.z.size u.c] 58):=⟨_,rfl⟩
    rw [<-c1] at B R O |-
    clear e0 e1 e2 e3 e4 e5 e6 e7 e8 e9;have d0:l.cell? ⟨wr.heap.size,0,none⟩=some (.int .i64 u.id):=(vas l _ 0 _ _ (0,0) B).trans rfl;have d1:l.cell? ⟨wr.heap.size,1,none⟩=some (.int .i64 u.ph):=(vas l _ 1 _ _ (0,0) B).trans rfl;have d2:l.cell? ⟨wr.heap.size,2,none⟩=some (.int .i64 u.qu):=(vas l _ 2 _ _ (0,0) B).trans rfl;have d3:l.cell? ⟨wr.heap.size,3,none⟩=some (.int .i64 u.t):=(vas l _ 3 _ _ (0,0) B).trans rfl;have d4:l.cell? ⟨wr.heap.size,4,none⟩=some (.int .i64 u.bal):=(vas l _ 4 _ _ (0,0) B).trans rfl;have d5:l.cell? ⟨wr.heap.size,5,none⟩=some (.int .i64 u.abal):=(vas l _ 5 _ _ (0,0) B).trans rfl;have d6:l.cell? ⟨wr.heap.size,6,none⟩=some (.int .i64 u.seen):=(vas l _ 6 _ _ (0,0) B).trans rfl;have d7:l.cell? ⟨wr.heap.size,7,none⟩=some (.int .i64 u.age):=(vas l _ 7 _ _ (0,0) B).trans rfl;have d8:l.cell? ⟨wr.heap.size,8,none⟩=some (.string u.pay):=(vas l _ 8 _ _ (0,0) B).trans rfl;have d9:l.cell? ⟨wr.heap.size,9,none⟩=some (.slice u.A u.z.size u.c):=(vas l _ 9 _ _ (0,0) B).trans rfl;clear B c1 U c8
    go_wp2_with (first
     | (go_at_call 63;refine (T.out u _ (qaa A.out.b R.out)).mono ?_;rintro _ w3 ⟨⟨y,rfl,I,H⟩,g⟩;have D:=hI I;have X:=hI H;have b1:=hI (O.out.below g);have c4:=hI (qaa R.out g);have f9:y.z.size<=9:=(by rw [D.out];exact c3.out);clear I H g d0 d1 d2 d3 d4 d5 d6 d7 d8 d9)
     | (go_at_call 54;refine (qii w3.heap.size 2 x y _ (vaw w3 _) (b1.out.below (bel1 w3 _)) (X.out.below (bel1 w3 _)) jo).mono ?_;rintro _ w4 ⟨⟨z,rfl,L,J,_⟩,g⟩;have Z:=hI L;have Y:=hI J;have c5:=hI (qaa (qab c4.out _) g);clear L J g))
    go_roundw
    case rel=>exact ⟨k + 1,z,rfl,by go_num,by omega,by show _=_;rw [Z.out,V.out,D.out,a4.out],Y,c5⟩
    case measure=>simp [intOf];omega
   have g0:decide ((k:Int) < (r.e.z.size:Int))=false:=vab jo;obtain rfl:k=r.e.z.size:=by omega
   go_upto_region 10 with fail
   have KS:Hid (∀ W,Below wr.heap.size wr W->qdd W w.heap.size 18=true/\rowAt W w.heap.size=t):=fun W g=>⟨(q.out.next g).box a3,(q.out.next g).rowAt⟩
   refine qct (S:=fun W=>qdd W w.heap.size 18=true/\rowAt W w.heap.size=t) jk ?_;have F:Below wr.heap.size wr wr.drew:=(vag _ _).drew;have hS:=KS.out _ F;refine tkG 27 0 hS ?_ (ha:=tzq);refine qht (some 28) (i:=1) (v:=.agg t) rfl rfl jk jk jk (fun _ _ _ h=>h) (Or.inl ⟨by rfl,fun W hW=>qeq rfl hW.1 hW.2⟩) hS ?_;simp only [Act.put,sA,s0,s1];refine qht (some 29) (i:=2) (v:=.agg t) rfl rfl jk jk jk (fun _ _ _ h=>h) (Or.inl ⟨by rfl,fun W hW=>qeq rfl hW.1 hW.2⟩) hS ?_;simp only [Act.put,sA,s0,s1];refine rdy1 3 rfl (fun K E=>?_);go_simp;refine (a6.out _ (qaa q.out.b F)).mono ?_;rintro _ w3 ⟨⟨j,P,rfl,b5,b9,c0,b6,b7⟩,g⟩;have s:Below wr.heap.size wr w3:=qaa F g;have c9:=hI b5;have f2:=hI b9;have f5:=hI c0;have f0:Hid (FreshA w.heap.size j.aA):=hI (FreshA.mono b6 (qaa q.out.b F).size);have f1:Hid (FreshA w.heap.size j.mA):=hI (FreshA.mono b7 (qaa q.out.b F).size);refine E.out _ _ (KS.out _ s) (fun _=>?_);clear E K hS b5 b9 c0 g b6 b7;refine rdy1 4 rfl (fun K E=>?_);go_simp;refine (C.out j P c9.out _ (qaa q.out.b s)).mono ?_;rintro _ w4 ⟨⟨y,rfl,I,H⟩,g⟩;have G:Below wr.heap.size wr w4:=qaa s g;have D:=hI I;have X:=hI H;have a7:=hI (f5.out.next g);have b2:=hI (U.out.below G);have f9:y.z.size<=9:=by rw [D.out];exact Q.out j
   refine E.out _ _ (KS.out _ G) (fun _=>?_);clear E K I H g;refine rdy1 5 rfl (fun K E=>?_);go_simp;refine E.out _ _ (KS.out _ (qab G _)) (fun _=>?_);clear E K;refine rdy1 6 rfl (fun K E=>?_);go_simp;refine (qii w4.heap.size 2 x y _ (vaw w4 _) (b2.out.below (bel1 w4 _)) (X.out.below (bel1 w4 _)) jo).mono ?_;rintro _ w5 ⟨⟨z,rfl,L,J,c2⟩,g⟩;have a1:Below wr.heap.size wr w5:=qaa (qab G _) g;have Z:=hI L;have Y:=hI J;have f7:Hid (FreshA w.heap.size z.A):=hI (FreshA.mono c2 (qaa q.out.b (qab G _)).size);have a8:=hI ((a7.out.next (bel1 w4 _)).next g);refine E.out _ _ (KS.out _ a1) (fun _=>?_);clear E K L J g c2;have hS:=KS.out _ a1;refine tkG 2 7 hS ?_ (ha:=tzq);refine qbw jk ?_ _;go_wp2;go_ret;refine ⟨⟨z,j,rfl,?_,f2.out,a8.out,Y.out,f7.out,f0.out,f1.out⟩,qaa q.out.b a1⟩;show _=(qjx r r.e.z.size ++ allO r j).toArray;rw [Z.out,V.out,D.out,<-N.out,<-M.out];simp
 exact a2 _ n
end
end Go.Proofs.YtdcfffhoajmafaaGreat
set_option maxRecDepth 100000
set_option maxHeartbeats 8000000
namespace Go.Proofs.YtdcfffhoajmafaaGreat
open Go.RowKit Go.Sort Go.Lib Go.Proofs.Tryz
theorem qlj (A:Option Addr) (c n p:Nat) (d:Array Int) (t:Int) (w:World) (h:RdI_R w.heap.size w A d) (N:qas d n=0) (hp:p < n) (ht:0<=t/\t<=1000000) :
 Calls prog 39 #[.slice A d.size c,.int .i64 n,.int .i64 ((p:Int) + 1),.int .i64 t] w fun e O=>(∃ x:RW Int,e=.returned (.tuple #[x.v,.int .i64 0])/\x.z=qec d p t/\OwnJ w.heap.size O x)/\Below w.heap.size w O:=by
 obtain ⟨j0,F,J,K,L⟩:=vbo qcc;have hs:d.size=n:=by have:=(qay.1 N).2.1;omega
 have a1:=qps (qay.1 N).1;have u:Hid (Calls prog 101 #[.slice A d.size c,.int .i64 n] w fun e O=>e=.returned (.int .i64 0)/\w=O):=by
  have:=qel A c d n _ w h jo
  rwa [N] at this
 obtain ⟨b,r,rfl,hb,f⟩:=h jo;have HF:Hid (∀ j v,(d.toList.map (Value.int .i64))[j]?=some v->(w.alloc (.cells #[] 3)).cell? ((⟨b,r,none⟩:Addr).add j)=some v):=fun j v E=>by
  rw [vdc] at E;rcases val j d.size with s | s
  .rw [Addr.add_lit,vbq w _ _ hb,f j s]
   rw [vbh,vbe s] at E;rw [vae d j s];simpa using E
  rw [vbh,vbn s] at E;cases E
 have M:Hid ((w.alloc (.cells #[] 3)).ownsRow w.heap.size 3 1 (.slice (some ⟨w.heap.size,0,none⟩) 0 0) 0 []):=hI (by have h:=qba w 3 (encW (α:=Int)) 1;simpa [flatK] using h);have R:=hI (map_at d (p:=p) jo);have y:=hI (qop d p t);have z:Hid ((qec d p t).toList.length=d.size):=by show _=_;simp [qcu]
 have B:Hid (t<=d[p]!->qec d p t=d):=hI (fun h=>front_low jo h);obtain ⟨q,C⟩:∃ x,d[p]! = x:=⟨_,rfl⟩
 rw [C] at R y B;have e1:decide (t < 0)=false:=vab jo;have e2:decide (1000000 < t)=false:=vab jo;have e3:decide ((p:Int) + 1 < 1)=false:=vab jo;have e4:decide ((n:Int) < (p:Int) + 1)=false:=vab jo;have a4:IntKind.i64.wrap (p:Int)=(p:Int):=vcu _ jo;have a3:(p:Int) < (d.size:Int):=by omega
 have a2:p < d.size:=by omega
 have s:(d.toList.map (Value.int .i64)).length=d.size:=by simp
 have a0:d.size<=9:=by omega
 clear h N hp ht f C hb hs;have P:Hid (q < t->(d.toList.map (Value.int .i64)).set p (.int .i64 t)=(qec d p t).toList.map (Value.int .i64)):=hI (fun h=>by rw [<-y.out,show max q t=t by omega]);by_cases T:q < t
 .have U:decide (q < t)=true:=vah T
  go_in
  go_wp2_with (first
   | (go_at_call 101;refine u.out.mono ?_;rintro _ _ ⟨rfl,rfl⟩)
   | (at_builtin;refine vay _ rfl _ _ 26 rfl w.heap.size 3 j0 (.int .i64 0) 1 8 underlying26 F J K L rfl jd _ _ _ rfl M.out ⟨b,r,none⟩ d.size c (d.toList.map (Value.int .i64)) rfl jo HF.out (by intro v I;simp at I;obtain ⟨_,_,rfl⟩:=I;rfl) jl jo js ?_;intro Z m l i _;have a:m.ownsRow w.heap.size 3 1 Z d.size (d.toList.map (Value.int .i64)):=(by simpa using l);obtain ⟨g,S,rfl,D,_⟩:=qif a jo;have o:Hid (Below w.heap.size w m):=hI ((bel1 w _).grown i js (fun k V=>(M.out.lt k V).1));have Q:=hI a;have c0:m.cell? ⟨g,p,none⟩=some (.int .i64 q):=(a.cellAt p jo).trans R.out;have f0:m.frozen? ⟨g,p,none⟩=false:=a.frozenAt p;have HG:=hI D;clear a l i D))
  go_ret2;have H:=(Q.out.stored p (.int .i64 t)).1;rw [P.out T,<-z.out] at H;obtain ⟨x,e,Y,X⟩:=quf H (vaa _);refine ⟨⟨x,?_,by rw [Y],X⟩,o.out.setCell (p:=⟨g,p,none⟩) HG.out _⟩;rw [<-e,z.out];rfl
 have U:decide (q < t)=false:=vab T;go_in
 go_wp2_with (first
  | (go_at_call 101;refine u.out.mono ?_;rintro _ _ ⟨rfl,rfl⟩)
  | (at_builtin;refine vay _ rfl _ _ 26 rfl w.heap.size 3 j0 (.int .i64 0) 1 8 underlying26 F J K L rfl jd _ _ _ rfl M.out ⟨b,r,none⟩ d.size c (d.toList.map (Value.int .i64)) rfl jo HF.out (by intro v I;simp at I;obtain ⟨_,_,rfl⟩:=I;rfl) jl jo js ?_;intro Z m l i _;have a:m.ownsRow w.heap.size 3 1 Z d.size (d.toList.map (Value.int .i64)):=(by simpa using l);obtain ⟨g,S,rfl,D,_⟩:=qif a jo;have o:Hid (Below w.heap.size w m):=hI ((bel1 w _).grown i js (fun k V=>(M.out.lt k V).1));have Q:=hI a;have c0:m.cell? ⟨g,p,none⟩=some (.int .i64 q):=(a.cellAt p jo).trans R.out;have f0:m.frozen? ⟨g,p,none⟩=false:=a.frozenAt p;have HG:=hI D;clear a l i D))
 go_ret2;have H:=Q.out;have G:d.toList.length=d.size:=by simp
 rw [<-G] at H;obtain ⟨x,e,Y,X⟩:=quf H (vaa _);refine ⟨⟨x,?_,by rw [Y,B.out jo],X⟩,o.out⟩;rw [<-e,G];rfl
theorem qtj (m:Array (RW Int)) (c:Nat) {k:Nat} (h:k < m.size):(colM m c).toList.getD k 0=m[k]!.z[c]!:=by
 rw [qfb,colM_at m c h]
theorem qtk (A:Option Addr) (c n p:Nat) (m:Array (RW Int)) (w:World) (h:RdMM w ⟨A,c,m⟩) (Q:qey m n=true) (hp:p < n) :
 Calls prog 110 #[.slice A m.size c,.int .i64 n,.int .i64 ((p:Int) + 1)] w fun e U=>e=.returned (.int .i64 (qcl (colM m p)))/\Below w.heap.size w U:=by
 obtain ⟨S,R,a⟩:=qci.1 Q;have B:m.size=n:=by omega
 have C:∀ i,i < m.size->m[i]!.z.size=n:=fun i H=>by have:=(qay.1 (a i H)).2.1;omega
 have I:Hid (Calls prog 100 #[.slice A m.size c,.int .i64 n] w fun e U=>e=.returned (.int .i64 0)/\Below w.heap.size w U):=by
  have:=qpz A c m n w h.1.rd h.2 jo (fun i H=>by rw [C i H];omega)
  have e0:qea m n=0:=by unfold qea;rw [vam Q]
  rwa [e0] at this
 obtain ⟨b,d,X,hb,f⟩:=h.1.rd.at_ (i:=0) (show 0 < m.size by omega);have L:A=some ⟨b,d,none⟩:=X;subst L;have V:Hid (∀ W,Below w.heap.size w W->∀ i,i < n->∃ j l,W.cell? ⟨b,d + i,none⟩=some (.slice (some ⟨j,l,none⟩) n m[i]!.c)/\W.cell? ⟨j,l + p,none⟩=some (.int .i64 m[i]!.z[p]!)):=fun W Y i H=>by
  obtain ⟨b',D,e',N,f'⟩:=h.1.rd.at_ (i:=i) (show i < m.size by omega);have K:some (⟨b,d,none⟩:Addr)=some ⟨b',D,none⟩:=e';injection K with K
  injection K with q1 q2
  subst q1 q2;obtain ⟨j,l,hB,O,fz⟩:=(h.2 i (show i < m.size by omega)).rd (show 0 < m[i]!.z.size by rw [C i jo];omega);have M:m[i]!.A=some ⟨j,l,none⟩:=hB;have r:=f' 0 jo;have t:=fz p (show p < m[i]!.z.size by rw [C i jo];exact hp);have T:=C i jo;simp only [vak,vcq,encW,RW.v,vac,T,M] at r;exact ⟨j,l,(Y.cell (p:=⟨b,d + i,none⟩) N).trans r,(Y.cell (p:=⟨j,l + p,none⟩) O).trans t⟩
 have E:Hid (m[0]!.z[p]! = Lib.minOf ((colM m p).toList.take 1)):=by
  show _=_;rw [minOf_one,qtj m p jo]
 have q:Hid (∀ k,1<=k->k < n->Lib.minOf ((colM m p).toList.take (k + 1))=min (Lib.minOf ((colM m p).toList.take k)) m[k]!.z[p]!):=fun k h1 h2=>by
  rw [minOf_step _ _ h1 (by simp [qkh];omega),qtj m p jo]
 have o:Hid (Lib.minOf ((colM m p).toList.take n)=qcl (colM m p)):=by
  show _=_;unfold qcl;rw [vaz (by simp [qkh];omega)]
 obtain ⟨g,G⟩:∃ g:Nat->Int,g=fun k=>Lib.minOf ((colM m p).toList.take k):=⟨_,rfl⟩
 have E:Hid (m[0]!.z[p]! = g 1):=by rw [G];exact E
 have q:Hid (∀ k,1<=k->k < n->g (k + 1)=min (g k) m[k]!.z[p]!):=by rw [G];exact q
 have o:Hid (g n=qcl (colM m p)):=by rw [G];exact o
 have e3:decide ((p:Int) + 1 < 1)=false:=vab jo;have e4:decide ((n:Int) < (p:Int) + 1)=false:=vab jo;have a1:IntKind.i64.wrap (p:Int)=(p:Int):=vcu _ jo;have pz:(p:Int) < (n:Int):=by omega
 have m0:(0:Int) < (m.size:Int):=by omega
 have a0:n<=9:=by omega
 have J:=hI B;clear h Q S R a C X f G hb B;go_in;go_wp2_with (go_at_call 100;refine I.out.mono ?_;rintro _ w1 ⟨rfl,s⟩;have u:=hI s;obtain ⟨j,l,r,t⟩:=V.out w1 s 0 jo;rw [vak] at r;generalize m[0]!.z[p]! = x0 at t E;clear s);clear r t
 go_loop [7,8] (fun v i=>∃ k:Nat,1<=k/\k<=n/\i=.int .i64 k/\v=.int .i64 (g k)) (fun _ i=>n - (intOf i).toNat)
 case atStart=>exact ⟨1,vaa _,by omega,rfl,by rw [E.out]⟩
 case round =>
  obtain ⟨k,P,hk,rfl,rfl⟩:=hrel;by_cases z:k < n
  .have kz:(k:Int) < (n:Int):=by omega
   have km:(k:Int) < (m.size:Int):=by have:=J.out;omega
   obtain ⟨j,l,r,t⟩:=V.out w1 u.out k z;have F:=hI (q.out k P z);generalize m[k]!.z[p]! = x at t F;generalize m[k]!.c=mc at r;generalize g k=y at F;by_cases hx:x < y
   .go_wp2
    go_round
    case rel=>exact ⟨k + 1,by omega,by omega,by go_num,by rw [F.out,Int.min_eq_right jo]⟩
    case measure=>simp [intOf];omega
   have a2:decide (x < y)=false:=vab hx;go_wp2;go_round
   case rel=>exact ⟨k + 1,by omega,by omega,by go_num,by rw [F.out,Int.min_eq_left jo]⟩
   case measure=>simp [intOf];omega
  have Z:decide ((k:Int) < (n:Int))=false:=vab jo;obtain rfl:k=n:=by omega
  have HE:=o.out;generalize g k=y at HE;go_wp2;go_ret;exact ⟨rfl,u.out⟩
theorem qvu (e:EN):(ageE e).id=e.id:=by unfold ageE;split <;> rfl
theorem ageE_z (e:EN):(ageE e).z=e.z/\(ageE e).pay=e.pay/\(ageE e).ph=e.ph/\(ageE e).t=e.t:=by unfold ageE;split <;> exact ⟨rfl,rfl,rfl,rfl⟩
theorem ageE_chk {e:EN} (h:qgh e=true):qgh (ageE e)=true:=by
 unfold ageE;split
 .unfold qgh at h |-
  simp only [vav,vap] at h |-
  obtain ⟨⟨⟨⟨b,a⟩,c⟩,d⟩,f⟩:=h;refine ⟨⟨⟨⟨b,?_⟩,c⟩,d⟩,f⟩;unfold qoe at a |-
  simp only at a |-
  omega
 exact h
theorem ageK_mem {d:Array EN} {x:EN} (h:x ∈ (ageK d d.size).toList):∃ i,i < d.size/\x=ageE d[i]!:=by
 obtain ⟨i,a,rfl⟩:=qkf h;rw [qdk] at a;exact ⟨i,a,by rw [qhx _ _ a,vam a]⟩
theorem ageK_chk {d:Array EN} (h:chkT d=true):chkT (ageK d d.size)=true:=by
 refine qeo.2 ⟨by rw [qdk];exact (qeo.1 h).1,fun i c=>?_⟩;rw [qdk] at c;have a:i - 1 < d.size:=by omega
 have b:=(qeo.1 h).2 i c;unfold atT at b |-
 rw [qhx _ _ c,vam c,qhx _ _ a,vam a,qvu,qvu];simp only [vav] at b |-
 exact ⟨ageE_chk b.1,b.2⟩
theorem AgedR.chk {r s:RP} (h:AgedR r s) (a:chkR r=true):chkR s=true:=by
 rcases h with ⟨o,_⟩ | ⟨_,q,b⟩
 .rw [o] at a;cases a
 have p:chkR { r with e:=s.e }=true:=by
  refine chk_e a _ (by rw [b];exact ageK_chk (qwh a)) fun x c=>?_
  rw [b] at c;obtain ⟨i,v,rfl⟩:=ageK_mem c;rw [qvu];exact qwi a _ (qhp _ v)
 rw [q];obtain ⟨⟨d,f,g,j,k,l,m,y,n⟩,t,u⟩:=(qbo _).1 p;have z:0<=r.ticks:=m;exact (qbo _).2 ⟨⟨d,f,g,j,k,l,(by show 0<=min (r.ticks + 1) 1000000;omega),(by show min (r.ticks + 1) 1000000<=1000000;omega),n⟩,t,u⟩
theorem AgedR.few {r s:RP} (h:AgedR r s) (a:FewC r):FewC s:=by
 rcases h with ⟨_,rfl⟩ | ⟨_,q,c⟩
 .exact a
 rw [q];refine ⟨?_,fun i d=>?_,a.o,a.k,a.m,a.mm,a.fr,a.d,a.dd,a.kk⟩
 .show s.e.z.size<=1000
  rw [c,qdk];exact a.es
 have b:i < s.e.z.size:=d;show s.e.z[i]!.z.size<=1000/\s.e.z[i]!.pay.size<=1000;rw [c] at b |-
 rw [qdk] at b;rw [qhx _ _ b,vam b,(ageE_z _).1,(ageE_z _).2.1];exact a.ee i b
def qjj (P:RP->Int->RP->List OU->Prop) (r:RP) (d:Array Int):Nat->RP->List OU->Prop
 | 0,s,os=>s=r/\os=[]
 | k + 1,s,os=>∃ t o1 o2,qjj P r d k t o1/\P t d[k]! s o2/\os=o1 ++ o2
def TickR (P:RP->Int->RP->List OU->Prop) (r s:RP) (x:RW OU) (W:World):Prop:=(chkR r=false/\s=r/\x.z=#[]) \/
 (chkR r=true/\∃ r1 s2 pm os,RefR r r1/\AgedR r1 s2/\qjj P s2 (dueR s2) (dueR s2).size s os/\x.z=(os ++ (qjx s s.e.z.size ++ allO s pm)).toArray/\PrmM s pm/\RdM W pm)
theorem SepR.congr {r s:RP} {B:Nat} {a b:World} (h:SepR r B a s) (c:b.heap.size=a.heap.size) (g:∀ j,B<=j->b.heap[j]?=a.heap[j]?):SepR r B b s:=fun W f e i =>
 h W f (fun j d k=>(e j d (by rw [c];exact k)).trans (g j d)) (by rw [<-c];exact i)
theorem RdM.far {w W:World} {m:PM} {g:Nat} (h:RdM w m) (c:W.heap.size=w.heap.size) (d:∀ q,m.aA=some q->q.block≠g) (e:∀ q,m.mA=some q->q.block≠g) (a:∀ b,b≠g->W.heap[b]?=w.heap[b]?):RdM W m :=
 ⟨by rw [c];exact RdK.farG h.ra (fun _=>d) a,by rw [c];exact RdI_R.farG (A:=m.mA) h.rm (fun _=>e) a,h.sa,h.sm,h.sp⟩
theorem dueR_size (r:RP):(dueR r).size<=r.e.z.size:=by
 unfold dueR;split
 .exact qsa _ _
 exact vaj _
theorem newG {s:RP} {b:Int} (h:NewR 3 1 b 3 s) (z:b=1\/b=2):chkR s=true/\FewP s:=by
 obtain ⟨c,l,d,m,n,o,p,q,r,a⟩:=h.h;have e:PrbR { s with self:=2 }:=⟨⟨c,l,rfl,n,o,p,q,r,a⟩,by show 0<=s.clock/\s.clock<=1000000;rw [m];decide,Or.inl h.e,h.o,h.k,h.m,h.fr,⟨h.d.1,fun i v=>Or.inl (h.d.2 i v)⟩,h.it,h.ss⟩
 obtain ⟨⟨g,x,y,j⟩,t,u⟩:=(qbo _).1 e.chk;have f:=e.few;have k:s.n=3:=c;exact ⟨(qbo _).2 ⟨⟨g,by rw [d];omega,by rw [d,k];omega,j⟩,t,u⟩,⟨f.e,f.o,f.k,f.m,f.fr,f.d,f.kk,f.dd,f.it,f.ss⟩⟩
structure TickN (s:RP):Prop where
 c:chkR s=true
 f:FewC s
 d:dueR s=#[]
 t:s.ticks=1
 e:s.e.z=#[]
 s:s.self=1/\s.n=3
theorem tickN {r a s:RP} (h:NewR 3 1 1 3 r) (c:RefR r a) (d:AgedR a s):TickN s:=by
 obtain ⟨g,i⟩:=newG h (Or.inl rfl);have b:=c.chk g i.m';have o:=c.few g i.m';have l:=d.chk b;have p:=d.few o;have q:=c.eq;have m:a.e.z=#[]:=by rw [q];exact h.e
 have u:a.ticks=0:=by rw [q];exact h.h.2.2.2.2.2.2.1
 have s0:a.self=1/\a.n=3:=by rw [q];exact ⟨h.h.2.2.1,h.h.1⟩
 rcases d with ⟨t,_⟩ | ⟨_,e,n⟩
 .rw [t] at b;cases b
 have k:s.ticks=1:=by rw [e];show min (a.ticks + 1) 1000000=1;rw [u];decide
 have j:s.n=3:=by rw [e];exact s0.2
 refine ⟨l,p,?_,k,by rw [n,m];rfl,⟨by rw [e];exact s0.1,j⟩⟩;unfold dueR;rw [vao];rintro ⟨_,f⟩;rw [k,j] at f;exact absurd f jd
theorem oth13:(othK 1 (3:Int).toNat).toList=[2,3]:=by decide
theorem zbh {P:RP->Int->RP->List OU->Prop} {r s:RP} {x:RW OU} {W:World} (h:NewR 3 1 1 3 r) (j:TickR P r s x W):s.ticks=1/\∃ m:PM,m.k=10/\x.z=#[⟨2,m⟩,⟨3,m⟩]:=by
 obtain ⟨c,p⟩:=newG h (Or.inl rfl);rcases j with ⟨d,_⟩ | ⟨_,q,o,n,l,e,f,b,g,i,_⟩
 .rw [d] at c;cases c
 have a:=tickN h e f;rw [a.d] at b;obtain ⟨rfl,rfl⟩:s=o/\l=[]:=b;have k:s.e.z.size=0:=by rw [a.e];rfl
 refine ⟨a.t,{ n with fr:=s.self },i.h.1,?_⟩;rw [g,k];unfold allO;rw [a.s.1,a.s.2,oth13];rfl
def m29 (A B:Option Addr) (a b:Nat):PM:=⟨10,1,0,0,0,0,0,0,⟨#[]⟩,0,4,A,a,#[(3,11)],B,b,#[4,0,0],1⟩
def kk2:KN:=⟨2,#[(4,4)],#[(3,11)]⟩
theorem kk2_add:AddR ⟨0,#[],#[]⟩ 0 4 #[(3,11)] kk2:=by
 refine ⟨#[(1,2),(4,4)],⟨NL.lit jd,fun n=>?_⟩,by decide,⟨by decide,?_,?_⟩⟩
 .rw [vbd,qlc]
  show inR #[(1,2),(4,4)] n=true↔inR #[] n=true\/((max 0 0 < n/\n<=4)/\n ∉ [3]/\n ∉ ([]:List Int));unfold inR;simp [qcp];omega
 .refine ⟨fun _=>IsN.fit ⟨NL.lit jd,fun n=>?_⟩ jd,fun h=>absurd jd h⟩
  rw [vbd];unfold qmz inR qcg kk2;simp;omega
 show #[(3,11)]=mrgK _ _;unfold mrgK;exact (qwa [(3,11)] jd js).symm
theorem kk2_set:SetR kk2 #[] kk2:=by
 refine ⟨#[(4,4)],⟨NL.lit jd,fun n=>?_⟩,by decide,⟨by decide,?_,by decide⟩⟩
 .rw [vbd,qld]
  unfold kk2;simp
 refine ⟨fun _=>IsN.fit ⟨NL.lit jd,fun n=>?_⟩ jd,fun h=>absurd jd h⟩;rw [vbd];unfold qmz inR qcg kk2;simp;omega
theorem add00:AddR ⟨0,#[],#[]⟩ 0 0 #[] ⟨0,#[],#[]⟩:=by
 refine ⟨#[],⟨NL.lit jd,fun n=>?_⟩,by decide,⟨by decide,?_,?_⟩⟩
 .rw [vbd,qlc]
  show inR #[] n=true↔inR #[] n=true\/((max 0 0 < n/\n<=0)/\n ∉ ([]:List Int)/\n ∉ ([]:List Int));unfold inR;simp <;> omega
 .refine ⟨fun _=>IsN.fit ⟨NL.lit jd,fun n=>?_⟩ jd,fun h=>absurd jd h⟩
  rw [vbd];unfold qmz inR qcg;simp
 show #[]=mrgK _ _;unfold mrgK;exact (qwa [] jd js).symm
theorem m29_chk (A B:Option Addr) (a b:Nat):chkM (m29 A B a b)=0:=rfl
theorem add29:addB ⟨0,#[],#[]⟩ 0 4 #[(3,11)]=true/\qas #[4,0,0] 3=0/\qat 0=0:=by decide
theorem m29_ok {r:RP} (h:NewR 3 1 2 3 r) (A B:Option Addr) (a b:Nat):okPr r (m29 A B a b)=true:=by
 obtain ⟨f,_⟩:=newG h (Or.inr rfl);obtain ⟨c,d,e⟩:=add29;unfold okPr qep;rw [f,m29_chk];show (decide ((10:Int)=10) && (true && decide ((0:Int)=0) && decide ((1:Int)<=r.n/\(1:Int)≠r.self/\qat 0<=r.n/\(0:Int).toNat >>> r.n.toNat=0)) && addB r.k.z[0]!.kn 0 4 #[(3,11)] && decide (qas #[4,0,0] r.n=0))=true;rw [h.k.2 0 jd,c,h.h.1,h.h.2.2.1,d,e];decide
theorem zbi {r s:RP} {A B:Option Addr} {a b:Nat} (h:NewR 3 1 2 3 r) (I:OnPrR r (m29 A B a b) s):chkR s=true/\FewC s/\qee s=#[2,0,0]/\s.fr.z=#[1,0,0]:=by
 obtain ⟨M,N⟩:=newG h (Or.inr rfl);have x:=m29_ok h A B a b;have J:=I.good N;have o:=J.2 M;rcases I with ⟨m,_⟩ | ⟨_,u,v,f,D,H⟩
 .rw [m] at x;cases x
 have X:u.self=2:=by rw [f.eq];exact h.h.2.2.1
 have F:u.floor=0:=by rw [f.eq];exact h.h.2.2.2.2.2.1
 have E:u.clock=0:=by rw [f.eq];exact h.h.2.2.2.1
 have V:u.o.z=#[]:=by rw [f.eq];exact h.o
 have U:u.e.z=#[]:=by rw [f.eq];exact h.e
 have T:∀ j,doneI u j=false:=fun j=>by
  have e:doneI u j=doneI r j:=by rw [f.eq];rfl
  rw [e];unfold doneI;rw [h.h.1];by_cases P:1<=qat j/\qat j<=3
  .rw [h.d.2 _ jo]
   have:qbg #[] (qfx j)=false:=rfl
   rw [this,vdz]
  rw [vab P,vez]
 have y:u.k.z.size=3:=by rw [f.ks];exact h.k.1
 have G:∀ i,i < 3->u.k.z[i]!.kn=if i=0 then kk2 else ⟨0,#[],#[]⟩:=fun i p=>by
  have n:=f.kk i (by rw [h.k.1];exact p);rw [h.k.2 i p] at n;by_cases d:i=0
  .subst d
   rw [vam (show ((0:Nat):Int) + 1=(m29 A B a b).fr from rfl)] at n;rw [vam rfl];exact n.1.uniq kk2_add
  rw [vao (show ¬ (i:Int) + 1=(m29 A B a b).fr by show ¬ (i:Int) + 1=1;omega)] at n;rw [vao d];exact n
 have R:∀ k c,qnm u k c->c=#[]:=fun k c O=>by
  apply var;rcases vba c.size with m | m
  .exact m
  have K:=(O c[0]!).1 (qhp c m)
  have:overB u c[0]! = false:=by
   unfold overB;rw [T,U];rfl
  rw [this] at K;exact absurd K.2 jd
 have l:∀ i,i < 3->v.k.z[i]!.base=if i=0 then 2 else 0:=fun i p=>by
  obtain ⟨Q,c,g,L,z⟩:=D.kk i (by rw [y];exact p);have t:=R _ _ L;subst t;rw [G i p,X,F,E,V] at g;by_cases d:i=0
  .subst d
   rw [vao jd,vam rfl] at g;rw [g] at z;rw [vam rfl];exact congrArg KN.base (z.uniq kk2_set)
  rw [vao d] at g |-
  have C:Q=⟨0,#[],#[]⟩:=by
   by_cases q:(i:Int) + 1=2
   .rw [vam q] at g
    exact g.uniq add00
   rw [vao q] at g;exact g
  rw [C] at z;exact congrArg KN.base (z.uniq (setBs 0 #[]))
 have S:s.k=v.k:=by rw [H.1]
 refine ⟨o,J.1,?_,?_⟩
 .unfold qee
  rw [vam o,S];exact bas3 (by rw [D.ks,y]) (l 0 jd) (l 1 jd) (l 2 jd)
 have C:s.fr=u.fr:=by rw [H.1];show v.fr=_;rw [D.eq]
 rw [C,f.fr,h.fr];rfl
theorem qvv {r s:RP} (h:NewR 3 1 1 3 r) (f:FrontR r 5 s):s.fr.z=#[5,0,0]:=by
 obtain ⟨g,_⟩:=newG h (Or.inl rfl);rcases f with ⟨c,_⟩ | ⟨_,a,_,d,e⟩
 .exact absurd ⟨g,by decide,by decide⟩ c
 have b:s.fr=a.fr:=by rw [e.1]
 rw [b,d,h.fr,h.h.2.2.1];rfl
def e11:EN:=⟨11,1,3,0,0,0,0,6,⟨#[]⟩,none,0,#[]⟩
def e21:EN:=⟨21,1,3,0,0,0,0,5,⟨#[]⟩,none,0,#[]⟩
theorem e1121:chkT #[e11,e21]=true/\qat 11=1/\qat 21=1:=by decide
def c29 (r:RP) (A:Option Addr) (c:Nat):RP:={ r with ticks:=24,e:=⟨A,c,#[e11,e21]⟩ }
theorem qnt {r:RP} (h:NewR 3 1 1 3 r) (A:Option Addr) (c:Nat):chkR (c29 r A c)=true/\FewC (c29 r A c):=by
 obtain ⟨q,a⟩:=newG h (Or.inl rfl);have a:=a.c;obtain ⟨v,y,z⟩:=e1121;have n:chkR { r with e:=⟨A,c,#[e11,e21]⟩ }=true:=by
  refine chk_e q _ v fun x u=>?_
  rw [h.h.1];have b:x=e11\/x=e21:=by simpa using u
  rcases b with rfl | rfl
  .show qat 11<=3;rw [y];decide
  show qat 21<=3;rw [z];decide
 obtain ⟨⟨d,f,g,j,k,l,B,C,m⟩,o,p⟩:=(qbo _).1 n;refine ⟨(qbo _).2 ⟨⟨d,f,g,j,k,l,(by decide:(0:Int)<=24),(by decide:(24:Int)<=1000000),m⟩,o,p⟩,⟨(by decide:2<=1000),fun i s=>?_,a.o,a.k,a.m,a.mm,a.fr,a.d,a.dd,a.kk⟩⟩;have t:i < 2:=s;rcases (show i=0\/i=1 by omega) with rfl | rfl <;> exact ⟨vaj _,vaj _⟩
theorem c29_due {r:RP} (h:NewR 3 1 1 3 r) (A:Option Addr) (c:Nat):dueR (c29 r A c)=#[11]:=by
 unfold dueR;rw [vam ⟨(qnt h A c).1,by show (24:Int).tmod (8 * r.n)=0;rw [h.h.1];decide⟩];rfl
theorem c29_age {r s:RP} {A:Option Addr} {c:Nat} (h:NewR 3 1 1 3 r) (e:AgedR (c29 r A c) s):s.e.z.size=2/\s.e.z[1]!.age=6:=by
 rcases e with ⟨a,_⟩ | ⟨_,_,b⟩
 .rw [(qnt h A c).1] at a;cases a
 have d:s.e.z=ageK #[e11,e21] 2:=b;rw [d];exact ⟨rfl,rfl⟩
theorem c29_tell {r:RP} (h:NewR 3 1 1 3 r) (A:Option Addr) (c:Nat) (a:PM):(qjx (c29 r A c) 2 ++ allO (c29 r A c) a).toArray.size=6:=by
 have e:∀ m,(allO (c29 r A c) m).length=2:=fun m=>by
  unfold allO qpr;rw [List.length_map];show (othK r.self r.n.toNat).toList.length=2;rw [h.h.1,h.h.2.2.1,oth13];rfl
 rw [vfd,vdk,e];show ((([]:List OU) ++ allO _ _) ++ allO _ _).length + 2=6;rw [vdk,vdk,e,e];rfl
def SepMM (B:Nat) (w:World) (m:Array (RW Int)) (y:RW (RW Int)):Prop:=∀ W,(∀ i,i < m.size->RdJ W m[i]!)->(∀ j,B<=j->j < w.heap.size->W.heap[j]?=w.heap[j]?)->w.heap.size<=W.heap.size->RdMM W y
structure TellZ (m:Array (RW Int)) (p k:Nat) (X:Array Int) (zz:Array (RW Int)) (y:RW Int):Prop where
 sz:zz.size=k
 old:∀ i,i < k->i≠p->zz[i]! = m[i]!
 new:p < k->zz[p]! = y/\y.z=X
theorem qvw {α:Type} [Inhabited α] (a:Array α) (x:α) {i:Nat} (hi:i < a.size):(a.push x)[i]! = a[i]!:=by
 rw [vae _ i jso,vae _ i hi,Array.getElem_push_lt hi]
theorem push_eq {α:Type} [Inhabited α] (a:Array α) (x:α):(a.push x)[a.size]! = x:=by
 rw [vae _ _ js];simp
theorem TellZ.oth {m:Array (RW Int)} {p k:Nat} {X:Array Int} {b:Array (RW Int)} {y:RW Int} (h:TellZ m p k X b y) (d:k≠p):TellZ m p (k + 1) X (b.push m[k]!) y:=by
 refine ⟨by simp [h.sz],fun i c a=>?_,fun a=>?_⟩
 .by_cases e:i=k
  .subst e;rw [<-h.sz,push_eq]
  rw [qvw _ _ (by rw [h.sz];omega)];exact h.old i jo a
 rw [qvw _ _ (by rw [h.sz];omega)];exact h.new jo
theorem TellZ.me {m:Array (RW Int)} {p:Nat} {X:Array Int} {b:Array (RW Int)} {y a:RW Int} (h:TellZ m p p X b y) (d:a.z=X):TellZ m p (p + 1) X (b.push a) a:=by
 refine ⟨by simp [h.sz],fun i e c=>?_,fun _=>⟨?_,d⟩⟩
 .rw [qvw _ _ (by rw [h.sz];omega)];exact h.old i jo c
 have:=push_eq b a
 rwa [h.sz] at this
theorem qyb (a:Array (RW Int)) (x:RW Int):(a.push x).toList.map RW.v=a.toList.map RW.v ++ [x.v]:=by simp
theorem qnu (A:Option Addr) (c n p:Nat) (m:Array (RW Int)) (I:Option Addr) (c2:Nat) (d2:Array Int) (w:World) (h:RdMM w ⟨A,c,m⟩) (hm:qey m n=true) (hp:p < n) (h2:RdI_R w.heap.size w I d2) (hd:qas d2 n=0) :
 Calls prog 38 #[.slice A m.size c,.int .i64 n,.int .i64 ((p:Int) + 1),.slice I d2.size c2] w fun e t=>(∃ y:RW (RW Int),e=.returned (.tuple #[y.v,.int .i64 0])/\SepMM w.heap.size t m y/\qoh m p (qcd m[p]!.z d2) y.z)/\Below w.heap.size w t:=by
 obtain ⟨i0,S,a3,a4,a5⟩:=vbo qpw;obtain ⟨b7,b6,r⟩:=qci.1 hm;have V:m.size=n:=by omega
 have K:∀ i,i < m.size->m[i]!.z.size=n:=fun i g=>by have:=(qay.1 (r i g)).2.1;omega
 have b5:d2.size=n:=by have:=(qay.1 hd).2.1;omega
 have a7:Hid (Calls prog 100 #[.slice A m.size c,.int .i64 n] w fun e t=>e=.returned (.int .i64 0)/\Below w.heap.size w t):=by
  have:=qpz A c m n w h.1.rd h.2 jo (fun i g=>by rw [K i g];omega)
  have e0:qea m n=0:=by unfold qea;rw [vam hm]
  rwa [e0] at this
 have a8:Hid (∀ W,Below w.heap.size w W->Calls prog 101 #[.slice I d2.size c2,.int .i64 n] W fun e t=>e=.returned (.int .i64 0)/\W=t):=fun W E=>by
  have:=qel I c2 d2 n _ W (h2.below E) jo
  rwa [hd] at this
 obtain ⟨b,z,hA,E,f⟩:=h.1.rd.at_ (i:=0) (show 0 < m.size by omega);have b1:A=some ⟨b,z,none⟩:=hA;subst b1;have HR:Hid (∀ W,Below w.heap.size w W->∀ i,i < n->W.cell? ⟨b,z + i,none⟩=some (.slice m[i]!.A n m[i]!.c)):=fun W hW i g=>by
  obtain ⟨b',a6,e',b3,f'⟩:=h.1.rd.at_ (i:=i) (show i < m.size by omega);have e2:some (⟨b,z,none⟩:Addr)=some ⟨b',a6,none⟩:=e';injection e2 with e2
  injection e2 with q1 q2
  subst q1 q2;have c1:=f' 0 jo;have c3:=K i jo;simp only [vak,vcq,encW,RW.v,vac,c3] at c1;exact (hW.cell (p:=⟨b,z + i,none⟩) b3).trans c1
 have N:Hid (∀ W,Below w.heap.size w W->Calls prog 102 #[.slice m[p]!.A n m[p]!.c,.slice I d2.size c2] W fun e t=>(∃ x:RW Int,e=.returned (.slice x.A x.z.size x.c)/\x.z=qcd m[p]!.z d2/\t.ownsRow W.heap.size 3 1 x.v (qcd m[p]!.z d2).toList.length ((qcd m[p]!.z d2).toList.map (Value.int .i64)))/\Below W.heap.size W t):=fun W E=>by
  have:=quo m[p]!.A I m[p]!.c c2 m[p]!.z d2 W (((h.2 p (show p < m.size by omega)).below E).rd) ((h2.below E).mono E.size) (by rw [K p jo];omega) jo
  rw [K p jo] at this;refine this.mono fun e t ⟨v,he,Z,b4⟩=>?_
  obtain ⟨x,ex,s,_⟩:=qcf Z;subst ex;exact ⟨⟨x,he,by rw [s],Z⟩,b4⟩
 have HV:Hid (∀ i,i < n->m[i]!.v=.slice m[i]!.A n m[i]!.c):=fun i g=>by unfold RW.v;rw [K i jo]
 obtain ⟨X,hX⟩:∃ X,qcd m[p]!.z d2=X:=⟨_,rfl⟩
 rw [hX] at N |-
 have e3:decide ((p:Int) + 1 < 1)=false:=vab jo;have e4:decide ((n:Int) < (p:Int) + 1)=false:=vab jo;have c9:IntKind.i64.wrap (p:Int)=(p:Int):=vcu _ jo;have q:=hI V;have c7:n<=9:=by omega
 have Y:(26 : TypeId)≠3:=by decide
 clear h hm h2 hd b7 b6 r K hA f E V b5 hX;go_in
 go_wp2_with (first
  | (go_at_call 100;refine a7.out.mono ?_;rintro _ w1 ⟨rfl,R⟩;have L:=hI R;clear R)
  | (go_at_call 101;refine (a8.out _ L.out).mono ?_;rintro _ _ ⟨rfl,rfl⟩))
 go_loopw [10,11] (fun v i wr=>∃ (k:Nat) (B:Array (RW Int)) (y:RW Int),i=.int .i64 k/\k<=n/\Hid (TellZ m p k X B y)/\wr.ownsRow w.heap.size 26 1 v B.size (B.toList.map RW.v)/\Hid (p < k->wr.ownsRow w.heap.size 3 1 y.v X.toList.length (X.toList.map (Value.int .i64)))/\Hid (Below w.heap.size w wr)) (fun _ i _=>n - (intOf i).toNat)
 case atStart=>exact ⟨0,#[],⟨none,0,#[]⟩,rfl,vaj _,hI ⟨rfl,fun i g=>absurd g jo,fun h=>absurd h jo⟩,vcj _ _ _ _,hI (fun h=>absurd h jo),L⟩
 case round =>
  obtain ⟨k,B,y,rfl,hk,HT,d,HY,J⟩:=hrel;have b2:=J.out.size;have d0:=HT.out.sz;by_cases U:k < n
  .have kz:(k:Int) < (n:Int):=by omega
   have km:(k:Int) < (m.size:Int):=by have:=q.out;omega
   have ck:=HR.out wr J.out k U;have P:=hI (HV.out k U);by_cases T:k=p
   .subst T
    have b0:Hid (∀ x:RW Int,x.z=X->TellZ m k (k + 1) X (B.push x) x):=hI (fun x s=>HT.out.me s);have D:=hI (N.out wr J.out);generalize m[k]!.A=mA at ck D;generalize m[k]!.c=mc at ck D
    go_wp2_with (first
     | (go_at_call 102;refine D.out.mono ?_;rintro _ w2 ⟨⟨x,rfl,s,a1⟩,F⟩;have HX:=hI s;have a9:=hI (qdj a1 b2);have M:=hI (qaa J.out F);have c4:=M.out.size;have j:=qeh d F;clear F a1 s)
     | (at_builtin;refine vay _ rfl _ _ 25 rfl w.heap.size 26 i0 (.slice none 0 0) 1 24 underlying25 S a3 a4 a5 rfl jd _ _ _ rfl (World.ownsRow.alloc j _) ⟨w2.heap.size,0,none⟩ 1 1 [.slice x.A x.z.size x.c] rfl rfl (qdr _ _ _) jV jl jo jso ?_;intro v' w3 l a _;have HK:=hI (qdv (j.alloc _) (a9.out.alloc _) Y a);have C:=hI (qcr M.out j a)))
    go_roundw
    case rel=>exact ⟨k + 1,B.push x,x,by go_num,by omega,hI (b0.out x HX.out),by rw [qyb,vbk];exact l,hI (fun _=>HK.out),C⟩
    case measure=>simp [intOf];omega
   have c5:((k:Int) == (p:Int))=false:=vch.2 jo;have O:Hid (TellZ m p (k + 1) X (B.push m[k]!) y):=hI (HT.out.oth T);obtain ⟨u,hu⟩:∃ u,m[k]! = u:=⟨_,rfl⟩
   rw [hu] at ck O P;clear hu;go_wp2_with (at_builtin;refine vay _ rfl _ _ 25 rfl w.heap.size 26 i0 (.slice none 0 0) 1 24 underlying25 S a3 a4 a5 rfl jd _ _ _ rfl (World.ownsRow.alloc d _) ⟨wr.heap.size,0,none⟩ 1 1 [.slice u.A n u.c] rfl rfl (qdr _ _ _) jV jl jo jso ?_;intro v' w3 l a _;have HK:Hid (p < k + 1->w3.ownsRow w.heap.size 3 1 y.v X.toList.length (X.toList.map (Value.int .i64))):=hI (fun c8=>qdv (d.alloc _) ((HY.out jo).alloc _) Y a);have C:=hI (qcr J.out d a));go_roundw
   case rel=>exact ⟨k + 1,B.push u,y,by go_num,by omega,O,by rw [qyb,vbk,P.out];exact l,HK,C⟩
   case measure=>simp [intOf];omega
  have c6:decide ((k:Int) < (n:Int))=false:=vab jo;obtain rfl:k=n:=by omega
  go_wp2;go_ret2;obtain ⟨x,ex,s,_⟩:=qgb d;subst ex;have G:=HT.out;have a2:x.z.size=m.size:=by rw [s,G.sz,q.out]
  refine ⟨⟨x,rfl,fun W a0 Z hs=>?_,a2,fun i g=>?_⟩,J.out⟩
  .obtain ⟨x',Q,b9,hr⟩:=qgb (qdz d (vaa _) Z)
   have:x=x':=by
    obtain ⟨xA,xc,xz⟩:=x;obtain ⟨yA,yc,yz⟩:=x';have H:xz=yz:=s.trans b9.symm;unfold RW.v at Q;injection Q with q1 q2 q3
    subst H q1 q3;rfl
   rw [<-this] at hr;refine ⟨hr,fun i g=>?_⟩;rw [s];rw [a2,q.out] at g;by_cases o:i=p
   .subst o
    obtain ⟨y',ey,c0,b8⟩:=qcf (qdz (HY.out g) (vaa _) Z);rw [(G.new g).1]
    have:y=y':=by
     obtain ⟨xA,xc,xz⟩:=y;obtain ⟨yA,yc,yz⟩:=y';have H:xz=yz:=((G.new g).2.trans js).trans c0.symm;unfold RW.v at ey;injection ey with q1 q2 q3
     subst H q1 q3;rfl
    rw [this];exact b8
   rw [G.old i g o];exact a0 i (by rw [q.out];exact g)
  rw [q.out] at g;rw [s];by_cases o:i=p
  .subst o
   rw [vam rfl,(G.new g).1,(G.new g).2]
  rw [vao o,G.old i g o]
def qoi (d:Array (Int×Int)) (f:Int) (k:Nat):Array (Int×Int):=((d.toList.take k).filter fun a=>!decide (a.1<=f)).toArray
theorem zbj {d:Array (Int×Int)} {f:Int} {k:Nat} (a:k < d.size):qoi d f (k + 1)=if f < d[k]!.1 then (qoi d f k).push d[k]! else qoi d f k:=by
 unfold qoi;rw [vdb,vbl (by simpa using a),vdq,vae d k a];have e:d.toList[k]'(by simpa using a)=d[k]:=by simp
 rw [e];by_cases h:f < d[k].1
 .rw [vam h]
  have:decide (d[k].1<=f)=false:=vab jo
  simp [this]
 rw [vao h]
 have:decide (d[k].1<=f)=true:=vah jo
 simp [this]
theorem keptK_all {d:Array (Int×Int)} {f:Int}:qoi d f d.size=qnl d f:=by
 unfold qoi qnl;rw [vaz js]
theorem qtl (A:Option Addr) (c:Nat) (d:Array (Int×Int)) (l:Int) (w:World) (h:RdK qae 2 w.heap.size w A d) (V:d.size<=1000000) :
 Calls prog 111 #[.slice A d.size c,.int .i64 l] w fun e K=>(∃ x:RW (Int×Int),e=.returned x.v/\x.z=qnl d l/\RdN qae 2 K x/\∀ g p,x.A=some ⟨g,p,none⟩->w.heap.size<=g)/\Below w.heap.size w K:=by
 obtain ⟨U,u,B,C,D⟩:=vbo qfq;have M:=hI h;clear h;go_in;go_wp2
 go_loopw [5,6] (fun m i wr=>∃ (k:Nat) (a:Array (Int×Int)),i=.int .i64 k/\k<=d.size/\a.size<=k/\Hid (a=qoi d l k)/\wr.ownsRow w.heap.size 29 2 m a.size (flatK qae 2 a).toList/\Hid (Below w.heap.size w wr)) (fun _ i _=>d.size - (intOf i).toNat)
 case atStart=>exact ⟨0,#[],rfl,vaj _,vaa _,rfl,qbk _ _ _ _ _,hI (vag _ _)⟩
 case round =>
  obtain ⟨k,a,rfl,X,S,F,j,q⟩:=hrel;by_cases z:k < d.size
  .have Y:(k:Int) < (d.size:Int):=by omega
   obtain ⟨b,p,rfl,P,f⟩:=(M.out.below q.out).at_ (i:=k) jo;have G:=f 0 jo;have H:=f 1 jo;have s:Hid (qoi d l (k + 1)=if l < d[k]!.1 then a.push d[k]! else a):=by
    show _=_;rw [zbj z,F.out]
   obtain ⟨x,J⟩:∃ x,d[k]! = x:=⟨_,rfl⟩
   rw [J] at G H s;clear f J;simp only [vak,qae,vac,vaf] at G H;by_cases t:l < x.1
   .have r:Hid (a.push x=qoi d l (k + 1)):=by show _=_;rw [s.out,vam t]
    go_wp2_with (at_builtin;refine vay _ rfl _ _ 23 rfl w.heap.size 29 U (.agg #[.int .i64 0,.int .i64 0]) 2 16 underlying23 u B C D rfl jd _ _ _ rfl (j.alloc _) ⟨wr.heap.size,0,none⟩ 1 1 [.int .i64 x.1,.int .i64 x.2] rfl rfl (newL wr _ _) jV jl jo (by have:=q.out.size;simp;omega) ?_;intro Z w4 o n _);go_roundw
    case rel=>exact ⟨k + 1,a.push x,by go_num,by omega,by simp;omega,r,(by rw [vbk,qax qar];exact o),hI (qma q.out q.out.size j n)⟩
    case measure=>simp [intOf];omega
   have Q:decide (l < x.1)=false:=vab t;have r:Hid (a=qoi d l (k + 1)):=by show _=_;rw [s.out,vao t]
   go_wp2;go_roundw
   case rel=>exact ⟨k + 1,a,by go_num,by omega,by omega,r,j,q⟩
   case measure=>simp [intOf];omega
  have I:decide ((k:Int) < (d.size:Int))=false:=vab jo;have v:k=d.size:=by omega
  have L:Hid (a=qnl d l):=by show _=_;rw [F.out,v,keptK_all]
  go_wp2;go_ret;have y:∀ g,_=some g->w.heap.size<=g:=fun g e=>(j.lt g e).1
  obtain ⟨E,N,rfl,T,R⟩:=qaq (enc:=qae) j;exact ⟨⟨⟨E,N,a⟩,rfl,L.out,⟨T,R⟩,fun g p e=>y g (by have O:E=_:=e;rw [O];rfl)⟩,q.out⟩
section
attribute [local go_sem ↓] qap qan
attribute [local go_sem] qaw qao qal qbb qbv
theorem qyc {r:RP} {w W2 d:World} {A:Option Addr} {c:Nat} {n:Int} (f:RdT W2 A (qdy n r.e.z)) (l:∀ g b,A=some ⟨g,b,none⟩->w.heap.size + 2<=g) (s:d.heap.size=W2.heap.size) (p:∀ j,w.heap.size + 2<=j->d.heap[j]?=W2.heap[j]?):SepR r w.heap.size d { r with e:=⟨A,c,qdy n r.e.z⟩ }:=fun W' a k t=>by
 refine ⟨⟨?_,fun i m=>?_⟩,a.o,a.k,a.kk,a.m,a.mm,a.fr,a.d,a.dd,a.it,a.ss⟩
 .exact RdK.apartN f.rd (fun _ g b e=>l g b e) (fun j h q=>(k j jo jo).trans (p j h)) jo
 obtain ⟨j,o,e⟩:=qwj m;show RdE0 W' (qdy n r.e.z)[i]!;rw [e];exact a.e.el j o
theorem qtm {r:RP} {x:RW Int} {w b:World} {B:Nat} (f:OwnJ B b x) (i:w.heap.size + 2<=B):SepR r (w.heap.size + 2) (b.setCell ⟨w.heap.size,11,none⟩ (.slice x.A x.z.size x.c)) { r with fr:=x }:=fun W' a d g=>by
 have e:=f W' (fun j h c=>(d j jo (by simpa using c)).trans (vbf b ⟨w.heap.size,11,none⟩ j _ jso)) (by simpa using g);exact ⟨a.e,a.o,a.k,a.kk,a.m,a.mm,e,a.d,a.dd,a.it,a.ss⟩
theorem qtn {r:RP} {x:RW Int} (a:FewC r) (h:x.z.size=r.fr.z.size):FewC { r with fr:=x }:=by
 refine ⟨a.es,a.ee,a.o,a.k,a.m,a.mm,?_,a.d,a.dd,a.kk⟩;show x.z.size<=1000;rw [h];exact a.fr
theorem qto {f:FuncId} {r:RP} {W:World} {i:Array Value} {R:RP->Prop} (h:∀ W,RdP W r->FewC r->Calls prog f #[.agg (encP r).toArray] W fun e g=>(∃ s:RP,e=.returned (.agg (encP s).toArray)/\R s/\SepR r W.heap.size g s)/\Below W.heap.size W g) (j:i=(encP r).toArray) (l:RdP W r) (k:FewC r) :
 Calls prog f #[.agg i] W fun e g=>(∃ (s:RP) (c:Array Value),e=.returned (.agg c)/\c=(encP s).toArray/\R s/\SepR r W.heap.size g s)/\Below W.heap.size W g:=by
 rw [j];exact (h W l k).mono fun e g ⟨⟨s,a,b,c⟩,d⟩=>⟨⟨s,_,a,rfl,b,c⟩,d⟩
theorem qoj (A:Option Addr) (c n p:Nat) (d:Array Int) (t:Int) (w:World) (h:RdI_R w.heap.size w A d) (j:qas d n=0) (s:p < n) (u:¬ (0<=t/\t<=1000000)) :
 Calls prog 32 #[.slice A d.size c,.int .i64 n,.int .i64 ((p:Int) + 1),.int .i64 t] w fun e i=>e=.returned (.tuple #[.slice none 0 0,.int .i64 2])/\Below w.heap.size w i:=by
 have o:d.size=n:=by have:=(qay.1 j).2.1;omega
 have m:=qps (qay.1 j).1;have g:Hid (Calls prog 79 #[.slice A d.size c,.int .i64 n] w fun e i=>e=.returned (.int .i64 0)/\Below w.heap.size w i):=by
  have:=qfs A c d n _ w h jo
  rwa [j] at this
 have f:Hid (∀ W,Calls prog 78 #[.int .i64 ((p:Int) + 1),.int .i64 n] W fun e i=>e=.returned (.bool true)/\W=i):=fun W=>by
  have:=qig ((p:Int) + 1) n W
  rwa [vah (by omega:1<=(p:Int) + 1/\(p:Int) + 1<=(n:Int))] at this
 clear h j o;by_cases k:t < 0
 .have l:decide (t < 0)=true:=vah k
  go_in
  go_wp2_with (first
   | (go_at_call 79;refine g.out.mono ?_;rintro _ q ⟨rfl,a⟩;have b:=hI a;clear a)
   | (go_at_call 78;refine (f.out _).mono ?_;rintro _ _ ⟨rfl,rfl⟩))
  go_ret2;exact ⟨rfl,b.out⟩
 have l:decide (t < 0)=false:=vab k;have r:decide (1000000 < t)=true:=vah jo;go_in
 go_wp2_with (first
  | (go_at_call 79;refine g.out.mono ?_;rintro _ q ⟨rfl,a⟩;have b:=hI a;clear a)
  | (go_at_call 78;refine (f.out _).mono ?_;rintro _ _ ⟨rfl,rfl⟩))
 go_ret2;exact ⟨rfl,b.out⟩
theorem qnv (A:Option Addr) (c n p:Nat) (d:Array Int) (t:Int) (w:World) (h:RdI_R w.heap.size w A d) (b:qas d n=0) (q:p < n) (r:¬ (0<=t/\t<=1000000)) :
 Calls prog 39 #[.slice A d.size c,.int .i64 n,.int .i64 ((p:Int) + 1),.int .i64 t] w fun e f=>e=.returned (.tuple #[.slice none 0 0,.int .i64 2])/\Below w.heap.size w f:=by
 have k:d.size=n:=by have:=(qay.1 b).2.1;omega
 have j:=qps (qay.1 b).1;have a:Hid (Calls prog 101 #[.slice A d.size c,.int .i64 n] w fun e f=>e=.returned (.int .i64 0)/\w=f):=by
  have:=qel A c d n _ w h jo
  rwa [b] at this
 have m:decide ((p:Int) + 1 < 1)=false:=vab jo;have o:decide ((n:Int) < (p:Int) + 1)=false:=vab jo;clear h b k;by_cases g:t < 0
 .have i:decide (t < 0)=true:=vah g
  go_in;go_wp2_with (go_at_call 101;refine a.out.mono ?_;rintro _ _ ⟨rfl,rfl⟩);go_ret2;exact ⟨rfl,vag _ _⟩
 have i:decide (t < 0)=false:=vab g;have l:decide (1000000 < t)=true:=vah jo;go_in;go_wp2_with (go_at_call 101;refine a.out.mono ?_;rintro _ _ ⟨rfl,rfl⟩);go_ret2;exact ⟨rfl,vag _ _⟩
theorem qtp (r:RP) (w:World) (h:RdP w r) (hf:FewC r) :
 Calls prog 34 #[.agg (encP r).toArray] w fun e i=>(∃ s:RP,e=.returned (.agg (encP s).toArray)/\DropR r s/\SepR r w.heap.size i s)/\Below w.heap.size w i:=by
 have HL:Hid (∀ W,Below w.heap.size w W->Calls prog 84 #[.slice r.fr.A r.fr.z.size r.fr.c] W fun e i=>e=.returned (.int .i64 (qcl r.fr.z))/\W=i):=fun W Z=>qsn r.fr.A r.fr.c r.fr.z _ W (h.fr.below Z).rd (jg hf.fr)
 have Q:Hid (∀ W,Below w.heap.size w W->Calls prog 83 #[.slice r.e.A r.e.z.size r.e.c,.int .i64 (qcl r.fr.z)] W fun e i=>(∃ E Y,e=.returned (.slice E (qdy (qcl r.fr.z) r.e.z).size Y)/\RdT i E (qdy (qcl r.fr.z) r.e.z)/\(∀ g f,E=some ⟨g,f,none⟩->W.heap.size<=g))/\Below W.heap.size W i):=fun W Z =>
  (qyo r.e.A r.e.c r.e.z (qcl r.fr.z) W ((h.below Z).tab hf)).mono fun e i ⟨E,Y,h1,h2,h3,h4⟩=>⟨⟨E,Y,h1,h2,h3⟩,h4⟩
 obtain ⟨B,z⟩:∃ B,qdy (qcl r.fr.z) r.e.z=B:=⟨_,rfl⟩
 have T:=hI z;rw [z] at Q;obtain ⟨ll,A⟩:∃ l,qcl r.fr.z=l:=⟨_,rfl⟩
 rw [A] at HL Q;have a4:=hI A;obtain ⟨o,a⟩:∃ o,o=(encP r).toArray:=⟨_,rfl⟩
 obtain ⟨a2,a3⟩:=rowP a;have P:=hI a;have G:Hid (o[7]?=some (.slice r.e.A r.e.z.size r.e.c)):=by show _=_;rw [a];rfl
 have F:Hid (o[11]?=some (.slice r.fr.A r.fr.z.size r.fr.c)):=by show _=_;rw [a];rfl
 have y:∀ x:Array Value,o=x->Calls prog 34 #[.agg x] w fun e i=>(∃ s:RP,e=.returned (.agg (encP s).toArray)/\DropR r s/\SepR r w.heap.size i s)/\Below w.heap.size w i:=by
  rintro _ rfl;simp only [encP] at a;clear h hf z A;rw [a];go_in;rw [<-a];clear a;have N:=hI (BoxG.fst w o qby 35 35);have HZ:=hI (BoxG.snd w o qby 35 35);simp only [qby] at N HZ;have X:Hid (∀ W,BoxG w w.heap.size o 35 W->W.cell? ⟨w.heap.size,7,none⟩=some (.slice r.e.A r.e.z.size r.e.c)/\W.cell? ⟨w.heap.size,11,none⟩=some (.slice r.fr.A r.fr.z.size r.fr.c)):=fun W hx=>⟨hx.at_ 7 G.out,hx.at_ 11 F.out⟩
  have x1:=N.out.box a2;have x2:=N.out.rowAt;go_wp2_with fail;refine qct (S:=fun W=>W.cell? ⟨w.heap.size,7,none⟩=some (.slice r.e.A r.e.z.size r.e.c)/\W.cell? ⟨w.heap.size,11,none⟩=some (.slice r.fr.A r.fr.z.size r.fr.c)) jk ?_;have k:=hI (N.out.next (vag _ _).drew);have V:=hI (HZ.out.next (vag _ _).drew);have D:=X.out _ k.out;clear x1 x2;refine tkG 3 0 D ?_ (ha:=tzq);refine tkG 4 1 D ?_ (ha:=tzq);refine tkG 5 2 D ?_ (ha:=tzq);refine tkG 6 3 D ?_ (ha:=tzq);refine rdy1 4 rfl (fun K p=>?_);go_simp;refine (HL.out _ k.out.b).mono ?_;rintro _ _ ⟨rfl,rfl⟩;refine p.out _ _ D (fun _=>?_);clear p K;refine rdy1 5 rfl (fun K p=>?_);go_simp;refine (Q.out _ k.out.b).mono ?_;rintro _ w2 ⟨⟨C,J,rfl,M,q⟩,v⟩;have d:=hI (k.out.next v);have H:=hI (V.out.next v);have U:=hI M;have R:Hid (∀ g f,C=some ⟨g,f,none⟩->w.heap.size + 2<=g):=hI (fun g f e=>by have:=q g f e;simpa using this);have a5:=H.out.lt;refine p.out _ _ (X.out _ d.out) (fun _=>?_);clear p K M q v D;refine tkG 9 6 (X.out _ d.out) ?_ (ha:=tzq);have c7:=d.out.at_ 7 G.out;have f7:=d.out.froz 7;refine rdyL 7 rfl (fun K p=>?_);go_simp;refine p.out _ _ ?_;clear p K c7 f7;refine qbw jk ?_ _;have m:=hI (d.out.set (vaa _) 7 (.slice C B.size J));have I:=hI (H.out.far (g2:=w.heap.size) (vaa _) jo 7 (.slice C B.size J));obtain ⟨L,b⟩:∃ c,c=(encP { r with e:=⟨C,J,B⟩ }).toArray:=⟨_,rfl⟩
  have t:o.setIfInBounds 7 (.slice C B.size J)=L:=by rw [P.out,b];rfl
  rw [t] at m;obtain ⟨u,a1⟩:=rowP b;have O:=hI b;have x1:=m.out.box u;have x2:=m.out.rowAt;have x3:=I.out.box (n:=18) rfl;clear b t;go_wp2;refine vau (qch rfl rfl (vbz _ _ _ _ _ _ I.out.row) u) rfl ?_;have a0:Below w.heap.size w ((w2.setCell ⟨w.heap.size,7,none⟩ (.slice C B.size J)).setRow (w.heap.size + 1) L):=m.out.b.trans ⟨rfl,rfl,rfl,by simp,fun j hj=>vbg _ _ j _ jo⟩;have hk:=T.out;subst hk;exact ⟨⟨_,by rw [<-O.out],⟨rfl,rfl⟩,qyc U.out R.out js (fun j hj=>(vbg _ _ j _ jo).trans (vbf w2 ⟨w.heap.size,7,none⟩ j _ jso))⟩,a0⟩
 exact y _ a
theorem qpe (r:RP) (t:Int) (w:World) (h:RdP w r) (hf:FewC r) :
 Calls prog 13 #[.agg (encP r).toArray,.int .i64 t] w fun e y=>(∃ s:RP,e=.returned (.agg (encP s).toArray)/\FrontR r t s/\SepR r w.heap.size y s)/\Below w.heap.size w y:=by
 have O:Hid (∀ W,Below w.heap.size w W->Calls prog 15 #[.agg (encP r).toArray] W fun e y=>e=.returned (.int .i64 (repE r))/\Below W.heap.size W y):=fun W g=>qcx r W (h.below g) hf
 have M:=hI h;have a9:=hI hf;obtain ⟨u,f⟩:∃ u,u=(encP r).toArray:=⟨_,rfl⟩
 obtain ⟨m,b9⟩:=rowP f;have q:=hI f;rw [<-f] at O;have N:∀ x:Array Value,u=x->Calls prog 13 #[.agg x,.int .i64 t] w fun e y=>(∃ s:RP,e=.returned (.agg (encP s).toArray)/\FrontR r t s/\SepR r w.heap.size y s)/\Below w.heap.size w y:=by
  rintro _ rfl;simp only [encP] at f;clear h hf;by_cases C:chkR r=true
  .rw [qdh C] at O
   have a0:=qew C;have Z:=qgf C;have v:=qjb C;have Y:=(qay.1 v).2.1;have L:=hI C;obtain ⟨p,hp⟩:∃ p:Nat,r.self=(p:Int) + 1:=⟨r.self.toNat - 1,by omega⟩
   obtain ⟨n,hn⟩:∃ n:Nat,r.n=(n:Int):=⟨r.n.toNat,by omega⟩
   have F:p < n:=by omega
   rw [hn] at v;have Q:Hid (u[0]?=some (.int .i64 (n:Int))):=by show _=_;rw [q.out,<-hn];rfl
   have R:Hid (u[2]?=some (.int .i64 ((p:Int) + 1))):=by show _=_;rw [q.out,<-hp];rfl
   have z:Hid (u[11]?=some (.slice r.fr.A r.fr.z.size r.fr.c)):=by show _=_;rw [q.out];rfl
   have HP:=hI hp;by_cases P:0<=t/\t<=1000000
   .have HF:Hid (∀ W,Below w.heap.size w W->Calls prog 32 #[.slice r.fr.A r.fr.z.size r.fr.c,.int .i64 n,.int .i64 ((p:Int) + 1),.int .i64 t] W fun e y=>(∃ x:RW Int,e=.returned (.tuple #[.slice x.A x.z.size x.c,.int .i64 0])/\x.z=qec r.fr.z p t/\OwnJ W.heap.size y x)/\Below W.heap.size W y):=fun W g=>qmh r.fr.A r.fr.c n p r.fr.z t W (M.out.fr.below g).rd v F P
    have HT:=hI P;clear C a0 Z v Y hp hn F P;rw [f];go_in;rw [<-f];clear f;have i:=hI (BoxG.fst w u qby 35 35);have I:=hI (BoxG.snd w u qby 35 35);simp only [qby] at i I;have G:=i.out.box m;have H:=i.out.rowAt
    go_wp2_with (first
     | (go_at_call 15;refine (O.out _ i.out.b).mono ?_;rintro _ w1 ⟨rfl,g⟩;have d:=hI (i.out.next g);have k:=hI (I.out.next g);have c1:=k.out.lt;clear g G H;have c0:=d.out.at_ 0 Q.out;have c2:=d.out.at_ 2 R.out;have c11:=d.out.at_ 11 z.out)
     | (go_at_call 32;refine (HF.out _ d.out.b).mono ?_;rintro _ w2 ⟨⟨x,rfl,hx,ho⟩,g⟩;have l:=hI (d.out.next g);have D:=hI (k.out.next g);have T:=hI hx;have b1:=hI ho;have b8:=hI g;clear g hx ho c0 c2 c11;have c11:=l.out.at_ 11 z.out;have c3:=l.out.froz 11;
        have A:=hI (l.out.set (vaa _) 11 (.slice x.A x.z.size x.c));have U:=hI (D.out.far (g2:=w.heap.size) (vaa _) (jg k.out.lt) 11 (.slice x.A x.z.size x.c));obtain ⟨b4,o⟩:∃ c,c=(encP { r with fr:=x }).toArray:=⟨_,rfl⟩;have K:u.setIfInBounds 11 (.slice x.A x.z.size x.c)=b4:=(by rw [q.out,o];rfl);rw [K] at A;obtain ⟨a3,b7⟩:=rowP o;have a6:=hI o;have S:Hid (SepR r (w.heap.size + 2) (w2.setCell ⟨w.heap.size,11,none⟩ (.slice x.A x.z.size x.c)) { r with fr:=x }):=hI (qtm b1.out jo);have a1:w.heap.size + 2<=(w2.setCell ⟨w.heap.size,11,none⟩ (.slice x.A x.z.size x.c)).heap.size:=(jg U.out.lt);have b0:Hid (FewC { r with fr:=x }):=hI (qtn a9.out (by rw [T.out,qcu]));
        have a8:=hI (qto (fun W a b=>qtp { r with fr:=x } W a b) a6.out (S.out.rd (M.out.below A.out.b)) b0.out);have G:=A.out.box a3;have H:=A.out.rowAt;clear K o)
     | (go_at_call 34;refine a8.out.mono ?_;rintro _ w4 ⟨⟨s,b3,rfl,B,X,J⟩,E⟩;obtain ⟨a2,b6⟩:=rowP B;have V:=hI (U.out.next E);have a5:=hI B;have b2:=hI (S.out.trans J E a1);have a7:=hI X;have a4:=hI (qaa A.out.b E);have x3:=V.out.box (n:=18) rfl;clear B X J E G H))
    refine vau (qch rfl rfl (vbz _ _ _ _ _ _ V.out.row) a2) rfl ?_;have b5:Below w.heap.size w (w4.setRow (w.heap.size + 1) b3):=a4.out.trans ⟨rfl,rfl,rfl,by simp,fun j hj=>vbg _ _ j _ jo⟩;refine ⟨⟨s,by rw [<-a5.out],Or.inr ⟨⟨L.out,HT.out⟩,_,rfl,?_,a7.out⟩,fun W' hr ha hz=>b2.out W' hr (fun j h1 h2=>(ha j jo (by simpa using h2)).trans (vbg _ _ j _ jo)) (by simpa using hz)⟩,b5⟩;show x.z=_;rw [T.out,show r.self.toNat - 1=p by rw [HP.out];omega]
   have HF:Hid (∀ W,Below w.heap.size w W->Calls prog 32 #[.slice r.fr.A r.fr.z.size r.fr.c,.int .i64 n,.int .i64 ((p:Int) + 1),.int .i64 t] W fun e y=>e=.returned (.tuple #[.slice none 0 0,.int .i64 2])/\Below W.heap.size W y):=fun W g=>qoj r.fr.A r.fr.c n p r.fr.z t W (M.out.fr.below g).rd v F P
   have HT:=hI P;clear C a0 Z v Y hp hn F P;rw [f];go_in;rw [<-f];clear f;have i:=hI (BoxG.fst w u qby 35 35);have I:=hI (BoxG.snd w u qby 35 35);simp only [qby] at i I;have G:=i.out.box m;have H:=i.out.rowAt
   go_wp2_with (first
    | (go_at_call 15;refine (O.out _ i.out.b).mono ?_;rintro _ w1 ⟨rfl,g⟩;have d:=hI (i.out.next g);have k:=hI (I.out.next g);clear g G H;have c0:=d.out.at_ 0 Q.out;have c2:=d.out.at_ 2 R.out;have c11:=d.out.at_ 11 z.out)
    | (go_at_call 32;refine (HF.out _ d.out.b).mono ?_;rintro _ w2 ⟨rfl,g⟩;have l:=hI (d.out.next g);have D:=hI (k.out.next g);clear g c0 c2 c11;have G:=l.out.box m;have H:=l.out.rowAt;have x3:=D.out.box (n:=18) rfl))
   refine vau (qch rfl rfl (vbz _ _ _ _ _ _ D.out.row) m) rfl ?_;exact ⟨⟨r,by rw [<-q.out],Or.inl ⟨fun h=>HT.out h.2,rfl⟩,SepR.self _ _ _⟩,l.out.b.trans ⟨rfl,rfl,rfl,by simp,fun j hj=>vbg _ _ j _ jo⟩⟩
  rw [qev C] at O;have L:=hI C;clear C;rw [f];go_in;rw [<-f];clear f;have i:=hI (BoxG.fst w u qby 35 35);have I:=hI (BoxG.snd w u qby 35 35);simp only [qby] at i I;have G:=i.out.box m;have H:=i.out.rowAt;go_wp2_with (go_at_call 15;refine (O.out _ i.out.b).mono ?_;rintro _ w1 ⟨rfl,g⟩;have d:=hI (i.out.next g);have k:=hI (I.out.next g);clear g G H;have G:=d.out.box m;have H:=d.out.rowAt;have x3:=k.out.box (n:=18) rfl);refine vau (qch rfl rfl (vbz _ _ _ _ _ _ k.out.row) m) rfl ?_;exact ⟨⟨r,by rw [<-q.out],Or.inl ⟨fun h=>L.out h.1,rfl⟩,SepR.self _ _ _⟩,d.out.b.trans ⟨rfl,rfl,rfl,by simp,fun j hj=>vbg _ _ j _ jo⟩⟩
 exact N _ f
theorem qtq (r:RP) (w:World) (h:RdP w r) (hf:FewC r) :
 Calls prog 40 #[.agg (encP r).toArray] w fun e i=>(∃ s:RP,e=.returned (.agg (encP s).toArray)/\DropR r s/\SepR r w.heap.size i s)/\Below w.heap.size w i:=by
 have HL:Hid (∀ W,Below w.heap.size w W->Calls prog 104 #[.slice r.fr.A r.fr.z.size r.fr.c] W fun e i=>e=.returned (.int .i64 (qcl r.fr.z))/\W=i):=fun W Z=>zao r.fr.A r.fr.c r.fr.z _ W (h.fr.below Z).rd (jg hf.fr)
 have Q:Hid (∀ W,Below w.heap.size w W->Calls prog 103 #[.slice r.e.A r.e.z.size r.e.c,.int .i64 (qcl r.fr.z)] W fun e i=>(∃ E Y,e=.returned (.slice E (qdy (qcl r.fr.z) r.e.z).size Y)/\RdT i E (qdy (qcl r.fr.z) r.e.z)/\(∀ g f,E=some ⟨g,f,none⟩->W.heap.size<=g))/\Below W.heap.size W i):=fun W Z =>
  (qyp r.e.A r.e.c r.e.z (qcl r.fr.z) W ((h.below Z).tab hf)).mono fun e i ⟨E,Y,h1,h2,h3,h4⟩=>⟨⟨E,Y,h1,h2,h3⟩,h4⟩
 obtain ⟨B,z⟩:∃ B,qdy (qcl r.fr.z) r.e.z=B:=⟨_,rfl⟩
 have T:=hI z;rw [z] at Q;obtain ⟨ll,A⟩:∃ l,qcl r.fr.z=l:=⟨_,rfl⟩
 rw [A] at HL Q;have a4:=hI A;obtain ⟨o,a⟩:∃ o,o=(encP r).toArray:=⟨_,rfl⟩
 obtain ⟨a2,a3⟩:=rowP a;have P:=hI a;have G:Hid (o[7]?=some (.slice r.e.A r.e.z.size r.e.c)):=by show _=_;rw [a];rfl
 have F:Hid (o[11]?=some (.slice r.fr.A r.fr.z.size r.fr.c)):=by show _=_;rw [a];rfl
 have y:∀ x:Array Value,o=x->Calls prog 40 #[.agg x] w fun e i=>(∃ s:RP,e=.returned (.agg (encP s).toArray)/\DropR r s/\SepR r w.heap.size i s)/\Below w.heap.size w i:=by
  rintro _ rfl;simp only [encP] at a;clear h hf z A;rw [a];go_in;rw [<-a];clear a;have N:=hI (BoxG.fst w o qby 35 35);have HZ:=hI (BoxG.snd w o qby 35 35);simp only [qby] at N HZ;have X:Hid (∀ W,BoxG w w.heap.size o 35 W->W.cell? ⟨w.heap.size,7,none⟩=some (.slice r.e.A r.e.z.size r.e.c)/\W.cell? ⟨w.heap.size,11,none⟩=some (.slice r.fr.A r.fr.z.size r.fr.c)):=fun W hx=>⟨hx.at_ 7 G.out,hx.at_ 11 F.out⟩
  have x1:=N.out.box a2;have x2:=N.out.rowAt;go_wp2_with fail;refine qct (S:=fun W=>W.cell? ⟨w.heap.size,7,none⟩=some (.slice r.e.A r.e.z.size r.e.c)/\W.cell? ⟨w.heap.size,11,none⟩=some (.slice r.fr.A r.fr.z.size r.fr.c)) jk ?_;have k:=hI (N.out.next (vag _ _).drew);have V:=hI (HZ.out.next (vag _ _).drew);have D:=X.out _ k.out;clear x1 x2;refine tkG 3 0 D ?_ (ha:=tzq);refine tkG 4 1 D ?_ (ha:=tzq);refine tkG 5 2 D ?_ (ha:=tzq);refine tkG 6 3 D ?_ (ha:=tzq);refine rdy1 4 rfl (fun K p=>?_);go_simp;refine (HL.out _ k.out.b).mono ?_;rintro _ _ ⟨rfl,rfl⟩;refine p.out _ _ D (fun _=>?_);clear p K;refine rdy1 5 rfl (fun K p=>?_);go_simp;refine (Q.out _ k.out.b).mono ?_;rintro _ w2 ⟨⟨C,J,rfl,M,q⟩,v⟩;have d:=hI (k.out.next v);have H:=hI (V.out.next v);have U:=hI M;have R:Hid (∀ g f,C=some ⟨g,f,none⟩->w.heap.size + 2<=g):=hI (fun g f e=>by have:=q g f e;simpa using this);have a5:=H.out.lt;refine p.out _ _ (X.out _ d.out) (fun _=>?_);clear p K M q v D;refine tkG 9 6 (X.out _ d.out) ?_ (ha:=tzq);have c7:=d.out.at_ 7 G.out;have f7:=d.out.froz 7;refine rdyL 7 rfl (fun K p=>?_);go_simp;refine p.out _ _ ?_;clear p K c7 f7;refine qbw jk ?_ _;have m:=hI (d.out.set (vaa _) 7 (.slice C B.size J));have I:=hI (H.out.far (g2:=w.heap.size) (vaa _) jo 7 (.slice C B.size J));obtain ⟨L,b⟩:∃ c,c=(encP { r with e:=⟨C,J,B⟩ }).toArray:=⟨_,rfl⟩
  have t:o.setIfInBounds 7 (.slice C B.size J)=L:=by rw [P.out,b];rfl
  rw [t] at m;obtain ⟨u,a1⟩:=rowP b;have O:=hI b;have x1:=m.out.box u;have x2:=m.out.rowAt;have x3:=I.out.box (n:=18) rfl;clear b t;go_wp2;refine vau (qch rfl rfl (vbz _ _ _ _ _ _ I.out.row) u) rfl ?_;have a0:Below w.heap.size w ((w2.setCell ⟨w.heap.size,7,none⟩ (.slice C B.size J)).setRow (w.heap.size + 1) L):=m.out.b.trans ⟨rfl,rfl,rfl,by simp,fun j hj=>vbg _ _ j _ jo⟩;have hk:=T.out;subst hk;exact ⟨⟨_,by rw [<-O.out],⟨rfl,rfl⟩,qyc U.out R.out js (fun j hj=>(vbg _ _ j _ jo).trans (vbf w2 ⟨w.heap.size,7,none⟩ j _ jso))⟩,a0⟩
 exact y _ a
theorem zbk (r:RP) (t:Int) (w:World) (h:RdP w r) (hf:FewC r) :
 Calls prog 14 #[.agg (encP r).toArray,.int .i64 t] w fun e y=>(∃ s:RP,e=.returned (.agg (encP s).toArray)/\FrontR r t s/\SepR r w.heap.size y s)/\Below w.heap.size w y:=by
 have O:Hid (∀ W,Below w.heap.size w W->Calls prog 48 #[.agg (encP r).toArray] W fun e y=>e=.returned (.int .i64 (repE r))/\Below W.heap.size W y):=fun W g=>qfe r W (h.below g) hf
 have M:=hI h;have a9:=hI hf;obtain ⟨u,f⟩:∃ u,u=(encP r).toArray:=⟨_,rfl⟩
 obtain ⟨m,b9⟩:=rowP f;have q:=hI f;rw [<-f] at O;have N:∀ x:Array Value,u=x->Calls prog 14 #[.agg x,.int .i64 t] w fun e y=>(∃ s:RP,e=.returned (.agg (encP s).toArray)/\FrontR r t s/\SepR r w.heap.size y s)/\Below w.heap.size w y:=by
  rintro _ rfl;simp only [encP] at f;clear h hf;by_cases C:chkR r=true
  .rw [qdh C] at O
   have a0:=qew C;have Z:=qgf C;have v:=qjb C;have Y:=(qay.1 v).2.1;have L:=hI C;obtain ⟨p,hp⟩:∃ p:Nat,r.self=(p:Int) + 1:=⟨r.self.toNat - 1,by omega⟩
   obtain ⟨n,hn⟩:∃ n:Nat,r.n=(n:Int):=⟨r.n.toNat,by omega⟩
   have F:p < n:=by omega
   rw [hn] at v;have Q:Hid (u[0]?=some (.int .i64 (n:Int))):=by show _=_;rw [q.out,<-hn];rfl
   have R:Hid (u[2]?=some (.int .i64 ((p:Int) + 1))):=by show _=_;rw [q.out,<-hp];rfl
   have z:Hid (u[11]?=some (.slice r.fr.A r.fr.z.size r.fr.c)):=by show _=_;rw [q.out];rfl
   have HP:=hI hp;by_cases P:0<=t/\t<=1000000
   .have HF:Hid (∀ W,Below w.heap.size w W->Calls prog 39 #[.slice r.fr.A r.fr.z.size r.fr.c,.int .i64 n,.int .i64 ((p:Int) + 1),.int .i64 t] W fun e y=>(∃ x:RW Int,e=.returned (.tuple #[.slice x.A x.z.size x.c,.int .i64 0])/\x.z=qec r.fr.z p t/\OwnJ W.heap.size y x)/\Below W.heap.size W y):=fun W g=>qlj r.fr.A r.fr.c n p r.fr.z t W (M.out.fr.below g).rd v F P
    have HT:=hI P;clear C a0 Z v Y hp hn F P;rw [f];go_in;rw [<-f];clear f;have i:=hI (BoxG.fst w u qby 35 35);have I:=hI (BoxG.snd w u qby 35 35);simp only [qby] at i I;have G:=i.out.box m;have H:=i.out.rowAt
    go_wp2_with (first
     | (go_at_call 48;refine (O.out _ i.out.b).mono ?_;rintro _ w1 ⟨rfl,g⟩;have d:=hI (i.out.next g);have k:=hI (I.out.next g);have c1:=k.out.lt;clear g G H;have c0:=d.out.at_ 0 Q.out;have c2:=d.out.at_ 2 R.out;have c11:=d.out.at_ 11 z.out)
     | (go_at_call 39;refine (HF.out _ d.out.b).mono ?_;rintro _ w2 ⟨⟨x,rfl,hx,ho⟩,g⟩;have l:=hI (d.out.next g);have D:=hI (k.out.next g);have T:=hI hx;have b1:=hI ho;have b8:=hI g;clear g hx ho c0 c2 c11;have c11:=l.out.at_ 11 z.out;have c3:=l.out.froz 11;
        have A:=hI (l.out.set (vaa _) 11 (.slice x.A x.z.size x.c));have U:=hI (D.out.far (g2:=w.heap.size) (vaa _) (jg k.out.lt) 11 (.slice x.A x.z.size x.c));obtain ⟨b4,o⟩:∃ c,c=(encP { r with fr:=x }).toArray:=⟨_,rfl⟩;have K:u.setIfInBounds 11 (.slice x.A x.z.size x.c)=b4:=(by rw [q.out,o];rfl);rw [K] at A;obtain ⟨a3,b7⟩:=rowP o;have a6:=hI o;have S:Hid (SepR r (w.heap.size + 2) (w2.setCell ⟨w.heap.size,11,none⟩ (.slice x.A x.z.size x.c)) { r with fr:=x }):=hI (qtm b1.out jo);have a1:w.heap.size + 2<=(w2.setCell ⟨w.heap.size,11,none⟩ (.slice x.A x.z.size x.c)).heap.size:=(jg U.out.lt);have b0:Hid (FewC { r with fr:=x }):=hI (qtn a9.out (by rw [T.out,qcu]));
        have a8:=hI (qto (fun W a b=>qtq { r with fr:=x } W a b) a6.out (S.out.rd (M.out.below A.out.b)) b0.out);have G:=A.out.box a3;have H:=A.out.rowAt;clear K o)
     | (go_at_call 40;refine a8.out.mono ?_;rintro _ w4 ⟨⟨s,b3,rfl,B,X,J⟩,E⟩;obtain ⟨a2,b6⟩:=rowP B;have V:=hI (U.out.next E);have a5:=hI B;have b2:=hI (S.out.trans J E a1);have a7:=hI X;have a4:=hI (qaa A.out.b E);have x3:=V.out.box (n:=18) rfl;clear B X J E G H))
    refine vau (qch rfl rfl (vbz _ _ _ _ _ _ V.out.row) a2) rfl ?_;have b5:Below w.heap.size w (w4.setRow (w.heap.size + 1) b3):=a4.out.trans ⟨rfl,rfl,rfl,by simp,fun j hj=>vbg _ _ j _ jo⟩;refine ⟨⟨s,by rw [<-a5.out],Or.inr ⟨⟨L.out,HT.out⟩,_,rfl,?_,a7.out⟩,fun W' hr ha hz=>b2.out W' hr (fun j h1 h2=>(ha j jo (by simpa using h2)).trans (vbg _ _ j _ jo)) (by simpa using hz)⟩,b5⟩;show x.z=_;rw [T.out,show r.self.toNat - 1=p by rw [HP.out];omega]
   have HF:Hid (∀ W,Below w.heap.size w W->Calls prog 39 #[.slice r.fr.A r.fr.z.size r.fr.c,.int .i64 n,.int .i64 ((p:Int) + 1),.int .i64 t] W fun e y=>e=.returned (.tuple #[.slice none 0 0,.int .i64 2])/\Below W.heap.size W y):=fun W g=>qnv r.fr.A r.fr.c n p r.fr.z t W (M.out.fr.below g).rd v F P
   have HT:=hI P;clear C a0 Z v Y hp hn F P;rw [f];go_in;rw [<-f];clear f;have i:=hI (BoxG.fst w u qby 35 35);have I:=hI (BoxG.snd w u qby 35 35);simp only [qby] at i I;have G:=i.out.box m;have H:=i.out.rowAt
   go_wp2_with (first
    | (go_at_call 48;refine (O.out _ i.out.b).mono ?_;rintro _ w1 ⟨rfl,g⟩;have d:=hI (i.out.next g);have k:=hI (I.out.next g);clear g G H;have c0:=d.out.at_ 0 Q.out;have c2:=d.out.at_ 2 R.out;have c11:=d.out.at_ 11 z.out)
    | (go_at_call 39;refine (HF.out _ d.out.b).mono ?_;rintro _ w2 ⟨rfl,g⟩;have l:=hI (d.out.next g);have D:=hI (k.out.next g);clear g c0 c2 c11;have G:=l.out.box m;have H:=l.out.rowAt;have x3:=D.out.box (n:=18) rfl))
   refine vau (qch rfl rfl (vbz _ _ _ _ _ _ D.out.row) m) rfl ?_;exact ⟨⟨r,by rw [<-q.out],Or.inl ⟨fun h=>HT.out h.2,rfl⟩,SepR.self _ _ _⟩,l.out.b.trans ⟨rfl,rfl,rfl,by simp,fun j hj=>vbg _ _ j _ jo⟩⟩
  rw [qev C] at O;have L:=hI C;clear C;rw [f];go_in;rw [<-f];clear f;have i:=hI (BoxG.fst w u qby 35 35);have I:=hI (BoxG.snd w u qby 35 35);simp only [qby] at i I;have G:=i.out.box m;have H:=i.out.rowAt;go_wp2_with (go_at_call 48;refine (O.out _ i.out.b).mono ?_;rintro _ w1 ⟨rfl,g⟩;have d:=hI (i.out.next g);have k:=hI (I.out.next g);clear g G H;have G:=d.out.box m;have H:=d.out.rowAt;have x3:=k.out.box (n:=18) rfl);refine vau (qch rfl rfl (vbz _ _ _ _ _ _ k.out.row) m) rfl ?_;exact ⟨⟨r,by rw [<-q.out],Or.inl ⟨fun h=>L.out h.1,rfl⟩,SepR.self _ _ _⟩,d.out.b.trans ⟨rfl,rfl,rfl,by simp,fun j hj=>vbg _ _ j _ jo⟩⟩
 exact N _ f
end
structure KnB (w:World) (K cK:Nat) (ks:Array KE) (W:World):Prop where
 own:W.ownsRow (w.heap.size + 2) 66 3 (.slice (some ⟨K,0,none⟩) ks.size cK) ks.size (flatK qav 3 ks).toList
 kk:∀ i,i < ks.size->RdKE W ks[i]!
 far:∀ i,i < ks.size->FarK w ks[i]!
section
variable {w W W':World} {r:RP} {K cK:Nat} {ks:Array KE}
theorem KnB.hK (h:KnB w K cK ks W):w.heap.size + 2<=K/\K < W.heap.size:=by
 obtain ⟨_,⟨e,_⟩ | ⟨g,_,_,e,a,b,_⟩⟩:=h.own
 .cases e
 injection e with e1
 injection e1 with e1
 injection e1 with e1
 subst e1;exact ⟨a,(vbm.1 b).1⟩
theorem KnB.next (h:KnB w K cK ks W) (a:Below W.heap.size W W'):KnB w K cK ks W' :=
 ⟨qeh h.own a,fun i b=>(h.kk i b).below a,h.far⟩
theorem KnB.rk (h:KnB w K cK ks W):RdW qav 3 W ⟨some ⟨K,0,none⟩,cK,ks⟩:=by
 obtain ⟨x,e,c,b⟩:=qek h.own
 have:x=⟨some ⟨K,0,none⟩,cK,ks⟩:=by
  obtain ⟨f,g,d⟩:=x;have a:d=ks:=c;subst a;unfold RW.v at e;injection e with q1 q2 q3
  subst q1 q3;rfl
 rw [<-this];exact b
theorem KnB.cells (h:KnB w K cK ks W) {i:Nat} (hi:i < ks.size) (c:Nat) (g:c < 3):W.cell? ⟨K,i * 3 + c,none⟩=some (qav ks[i]!)[c]!:=by
 obtain ⟨b,d,e,_,f⟩:=h.rk.rd.at_ (i:=i) hi;have a:some (⟨K,0,none⟩:Addr)=some ⟨b,d,none⟩:=e;injection a with a
 injection a with e1 e2
 subst e1 e2
 have:=f c g
 rwa [vcc] at this
theorem KnB.froz (h:KnB w K cK ks W) (j:Nat):W.frozen? ⟨K,j,none⟩=false:=h.own.frozenAt j
def put3 (W:World) (K i:Nat) (x:KE):World:=((W.setCell ⟨K,i * 3,none⟩ (.int .i64 x.base)).setCell ⟨K,i * 3 + 1,none⟩ (.slice x.r.A x.r.z.size x.r.c)).setCell ⟨K,i * 3 + 2,none⟩ (.slice x.a.A x.a.z.size x.a.c)
theorem zbl (W:World) (K i:Nat) (x:KE):W.grownBy (put3 W K i x) (some K) :=
 World.grownBy.trans (World.grownBy.trans (qcs _ _ _ _) (qcs _ _ _ _)) (qcs _ _ _ _)
theorem qnw (W:World) (K i:Nat) (x:KE):(put3 W K i x).heap.size=W.heap.size:=by simp [put3]
theorem BoxG.put3 {g:Nat} {cs:Array Value} {t:TypeId} (h:BoxG w g cs t W) (b:w.heap.size<=K) (a:g≠K) (i:Nat) (x:KE):BoxG w g cs t (put3 W K i x) :=
 ((h.far (g2:=K) b a _ _).far (g2:=K) b a _ _).far (g2:=K) b a _ _
theorem KnB.put (h:KnB w K cK ks W) {i:Nat} (hi:i < ks.size) {x:KE} (s:RdKE W x) (m:FarK w x):KnB w K cK (ks.setIfInBounds i x) (put3 W K i x):=by
 have o:(ks.setIfInBounds i x).size=ks.size:=by simp
 have a:∀ b t,(b≠K\/t < i * 3\/i * 3 + 3<=t)->(Go.Proofs.YtdcfffhoajmafaaGreat.put3 W K i x).cell? ⟨b,t,none⟩=W.cell? ⟨b,t,none⟩:=by
  intro b t q;have d:∀ (V:World) (j:Nat) (v:Value),(⟨K,j,none⟩:Addr)≠⟨b,t,none⟩->(V.setCell ⟨K,j,none⟩ v).cell? ⟨b,t,none⟩=V.cell? ⟨b,t,none⟩:=fun V j v n=>vcz V _ _ v n
  unfold Go.Proofs.YtdcfffhoajmafaaGreat.put3;rw [d _ _ _ (by intro e;injection e with e1 e2;omega),d _ _ _ (by intro e;injection e with e1 e2;omega),d _ _ _ (by intro e;injection e with e1 e2;omega)]
 have p:∀ t,t < ks.size * 3->W.cell? ⟨K,t,none⟩=some (flatK qav 3 ks)[t]!:=fun t r=>by
  have:=h.cells (i:=t / 3) jo (t % 3) (Nat.mod_lt _ jd)
  rw [show t / 3 * 3 + t % 3=t by omega] at this;rw [this,get_flatK _ _ _ _ r]
 have k:=qnw W K i x;have g:∀ y:KE,RdKE W y->RdKE (Go.Proofs.YtdcfffhoajmafaaGreat.put3 W K i x) y:=fun y l =>
  ⟨⟨by rw [k];exact qft qnn p l.r.rd hi a,l.r.no⟩,⟨by rw [k];exact qft qno p l.a.rd hi a,l.a.no⟩⟩
 refine ⟨?_,?_,fun j f=>?_⟩
 .rw [o,qns ks i x hi]
  exact (((h.own.stored (i * 3) _).1.stored (i * 3 + 1) _).1.stored (i * 3 + 2) _).1
 .intro j f
  rw [o] at f;by_cases c:j=i
  .subst c
   rw [getElem!_set_same ks j x hi];exact g x s
  rw [show (ks.setIfInBounds i x)[j]! = ks[j]! by rw [vbx,vbx,vbb,vao (Ne.symm c)]];exact g _ (h.kk j f)
 rw [o] at f;by_cases c:j=i
 .subst c
  rw [getElem!_set_same ks j x hi];exact m
 rw [show (ks.setIfInBounds i x)[j]! = ks[j]! by rw [vbx,vbx,vbb,vao (Ne.symm c)]];exact h.far j f
theorem KnB.oth (h:KnB w K cK ks W) {B s n:Nat} {e:TypeId} {v:Value} {b:List Value} (d:W.ownsRow B e s v n b) (a:(66 : TypeId)≠e) {W':World} (c:W.grownBy W' (some K)):W'.ownsRow B e s v n b :=
 qdv h.own d a c
theorem RdQ.setMD {a:RP} {B:Nat} {y:RW (RW Int)} (h:RdQ w W r a) (f:SepMM B W a.m.z y) (i:w.heap.size + 2<=B):RdQ w W r { a with m:=y }:=fun W' d b c=>by
 have g:=h W' d b c;have m:=f W' g.mm (fun j k e=>b j jo e) c;exact ⟨g.e,g.o,g.k,g.kk,m.1,m.2,g.fr,g.d,g.dd,g.it,g.ss⟩
end
theorem nodup_len:∀ {a b:List Int},a.Pairwise (· < ·)->(∀ x ∈ a,x ∈ b)->a.length<=b.length:=by
 intro a
 induction a with
 | nil=>intro b _ _;simp
 | cons x l ih =>
   intro b h c;have d:=c x js;obtain ⟨f,g⟩:=vbu.1 h
   have:∀ y ∈ l,y ∈ b.erase x:=fun y e=>(List.mem_erase_of_ne (by have:=f y e;omega)).2 (c y (by simp [e]))
   have:=ih g this
   rw [List.length_erase_of_mem d] at this
   have:=List.length_pos_of_mem d
   simp;omega
theorem qtr {k:KN} {s:Array Int} (h:OpenR k s):s.size<=k.ats.size:=by
 have:=nodup_len (b:=k.ats.toList.map (·.2)) h.up (fun x a=>((h.mem x).1 a).2)
 simpa using this
def OvP (r:RP) (kb:Array KE) (k:Nat) (O:List Int):Prop:=(∀ x,x ∈ O↔∃ i,i < k/\x ∈ kb[i]!.a.z.toList.map (·.2)/\overB r x=true)/\O.length<=k * 400
def OvI (r:RP) (kb:Array KE) (k:Nat) (s:Array Int) (j:Nat) (O:List Int):Prop:=(∀ x,x ∈ O↔(∃ i,i < k/\x ∈ kb[i]!.a.z.toList.map (·.2)/\overB r x=true)\/(x ∈ s.toList.take j/\overB r x=true))/\O.length<=k * 400 + j
theorem OvP.zero (r:RP) (a:Array KE):OvP r a 0 []:=⟨fun x=>by simp,by simp⟩
theorem OvP.enter {r:RP} {a:Array KE} {k:Nat} {O:List Int} (h:OvP r a k O) (s:Array Int):OvI r a k s 0 O:=⟨fun x=>by rw [h.1];simp,vax h.2 (Nat.le_add_right _ _)⟩
theorem qyd (s:Array Int) {j:Nat} (a:j < s.size):s.toList.take (j + 1)=s.toList.take j ++ [s[j]!]:=by
 rw [vdb,vbl (by simpa using a),vae s j a];simp
theorem OvI.yes {r:RP} {e:Array KE} {k j:Nat} {s:Array Int} {O:List Int} (h:OvI r e k s j O) (f:j < s.size) (g:overB r s[j]! = true):OvI r e k s (j + 1) (O ++ [s[j]!]):=by
 refine ⟨fun x=>?_,by have:=h.2;simp;omega⟩;rw [vbw,h.1,qyd s f,vbw,vco]
 constructor
 .rintro ((a | b) | c)
  .exact Or.inl a
  .exact Or.inr ⟨Or.inl b.1,b.2⟩
  exact Or.inr ⟨Or.inr c,by rw [c];exact g⟩
 rintro (a | ⟨b | c,d⟩)
 .exact Or.inl (Or.inl a)
 .exact Or.inl (Or.inr ⟨b,d⟩)
 exact Or.inr c
theorem OvI.no {r:RP} {e:Array KE} {k j:Nat} {s:Array Int} {O:List Int} (h:OvI r e k s j O) (f:j < s.size) (g:overB r s[j]! = false):OvI r e k s (j + 1) O:=by
 refine ⟨fun x=>?_,by have:=h.2;omega⟩;rw [h.1,qyd s f,vbw,vco]
 constructor
 .rintro (a | b)
  .exact Or.inl a
  exact Or.inr ⟨Or.inl b.1,b.2⟩
 rintro (a | ⟨b | c,d⟩)
 .exact Or.inl a
 .exact Or.inr ⟨b,d⟩
 rw [c,g] at d;cases d
theorem OvI.leave {r:RP} {c:Array KE} {k:Nat} {s:Array Int} {O:List Int} (h:OvI r c k s s.size O) (f:OpenR c[k]!.kn s) (g:chkB c[k]!.kn=true) (j:c[k]!.a.z.size<=400):OvP r c (k + 1) O:=by
 have l:s.size<=c[k]!.a.z.size:=qtr f;refine ⟨fun x=>?_,by have:=h.2;rw [vdx];omega⟩;rw [h.1,vaz js,f.mem,g]
 constructor
 .rintro (⟨i,a,b⟩ | ⟨⟨_,b⟩,d⟩)
  .exact ⟨i,by omega,b⟩
  exact ⟨k,by omega,b,d⟩
 rintro ⟨i,a,b,d⟩;rcases val i k with e | e
 .exact Or.inl ⟨i,e,b,d⟩
 obtain rfl:i=k:=by omega
 exact Or.inr ⟨⟨rfl,b⟩,d⟩
theorem ov_over {r:RP} {e:Array KE} {N i:Nat} {O:Array Int} (h:OvP r e N O.toList) (hi:i < N):∃ c,qnm r e[i]!.kn c/\∀ s,SetR e[i]!.kn O s->SetR e[i]!.kn c s:=by
 refine ⟨(O.toList.filter fun x=>(e[i]!.a.z.toList.map (·.2)).contains x).toArray,fun x=>?_,fun s j=>j.congr fun a f=>?_⟩
 .show x ∈ List.filter _ _↔_
  rw [vck,h.1,vct]
  constructor
  .rintro ⟨⟨_,_,_,d⟩,b⟩;exact ⟨b,d⟩
  rintro ⟨b,d⟩;exact ⟨⟨i,hi,b,d⟩,b⟩
 rw [vbd,qkg,qkg];show _↔a.2 ∈ List.filter _ _;rw [vck,vct];exact ⟨fun g=>⟨g,vcp.2 ⟨a,f,rfl⟩⟩,fun g=>g.1⟩
theorem setlB_5 {x:EN} (h:qgh x=true):qkb x.ph=decide (5<=x.ph):=by
 have a:=((qmb x).1 h).1;unfold qrd at a;unfold qkb;rw [vbd,vap,vap];omega
theorem find_over {r:RP} {x:EN×Bool} {id:Int} (b:chkT r.e.z=true) (h:FindR r.e.z id x):overB r id=((x.2 && decide (5<=x.1.ph)) || doneI r id):=by
 unfold overB;congr 1;rcases h with ⟨k,f,rfl,l,_⟩ | ⟨rfl,m⟩
 .have c:=qye b _ (qhp _ f)
  rw [vcn,<-setlB_5 c,vbd,vca]
  constructor
  .rintro ⟨y,i,a⟩
   obtain ⟨j,d,rfl⟩:=qkf i;rw [vav,vef] at a;have e:j=k:=by
    rcases vfc j k with g | g | g
    .have:=qvy b j k g f;omega
    .exact g
    have:=qvy b k j g d;omega
   subst e;exact a.1
  intro a;exact ⟨_,qhp _ f,by rw [a,l];simp⟩
 rw [vez,vdu];intro y i a;obtain ⟨j,d,rfl⟩:=qkf i;rw [vav,vef] at a;exact m j d a.2
