/- Texts that the law leans on. -/
import Derived.Test.YtdcfffhoajmafaaGreatQBoxG
import Derived.Test.YtdcfffhoajmafaaGreatQOwnK
set_option maxRecDepth 100000
set_option maxHeartbeats 40000000
namespace Go.Proofs.YtdcfffhoajmafaaGreat
open Go.RowKit Nb Go.Proofs.Tryz
def LayN (d:Array Int):Prop:=∀ i,i < d.size->0<=d[i]!/\d[i]!<=9223372036854775807
end Go.Proofs.YtdcfffhoajmafaaGreat
namespace Go.Proofs.YtdcfffhoajmafaaGreat
open Go.RowKit Go.Sort Go.Lib Go.Proofs.Tryz
def pcN (x:Nat):Nat->Nat
 | 0=>0
 | k + 1=>pcN x k + if x.testBit k then 1 else 0
def F1 (x:Int):Int:=IntKind.u64.wrap (bits .and .u64 (x / 2) 6148914691236517205 + bits .and .u64 x 6148914691236517205)
def F2 (y:Int):Int:=IntKind.u64.wrap (bits .and .u64 (y / 4) 3689348814741910323 + bits .and .u64 y 3689348814741910323)
def F3 (y:Int):Int:=bits .and .u64 (y / 16 + y) 1085102592571150095
def F4 (y:Int):Int:=bits .and .i64 (y + y / 256 + (y + y / 256) / 65536 + (y + y / 256 + (y + y / 256) / 65536) / 4294967296) 127
theorem pc_all:∀ x:Fin 512,0<=F1 (x.1:Int)/\F1 (x.1:Int)<=5000/\0<=F2 (F1 (x.1:Int))/\F2 (F1 (x.1:Int))<=5000/\0<=F3 (F2 (F1 (x.1:Int)))/\F3 (F2 (F1 (x.1:Int)))<=5000/\F4 (F3 (F2 (F1 (x.1:Int))))=(pcN x.1 9:Int):=by decide +kernel
theorem zar (x:Nat) (w:World) (p:x<=511) :
 Calls prog 295 #[.int .u64 x] w fun e l=>e=.returned (.int .i64 (pcN x 9))/\w=l:=by
 obtain ⟨f,i,g,j,h,k,c⟩:=pc_all ⟨x,by omega⟩;have d:Hid (F4 (F3 (F2 (F1 (x:Int))))=(pcN x 9:Int)):=c;simp only [] at f i g j h k;have m:IntKind.u64.wrap (bits .and .u64 ((x:Int) / 2) 6148914691236517205 + bits .and .u64 (x:Int) 6148914691236517205)=F1 (x:Int):=rfl;generalize F1 (x:Int)=a at *;have n:IntKind.u64.wrap (bits .and .u64 (a / 4) 3689348814741910323 + bits .and .u64 a 3689348814741910323)=F2 a:=rfl;generalize F2 a=b at *;have o:bits .and .u64 (b / 16 + b) 1085102592571150095=F3 b:=rfl;generalize F3 b=r at *;have q:(0:Int)<=x:=by omega
 clear c;go_in;go_wp2;go_ret;exact ⟨qag (by rw [<-d.out];rfl),rfl⟩
theorem Ones_any (x:Nat) (w:World) (b:x<=511) :
 Calls prog 268 #[.int .u64 x] w fun e a=>e=.returned (.int .i64 (pcN x 9))/\w=a:=by
 go_in;go_wp2_with (go_at_call 295;refine (zar _ _ b).mono ?_;rintro e a ⟨rfl,rfl⟩);go_ret;exact ⟨rfl,rfl⟩
theorem may_any (s:Int) (w:World) :
 Calls prog 267 #[.int .i64 s] w fun e a=>e=.returned (.bool (decide (0<=s/\s<=511)))/\w=a:=by
 go_in;go_wp2
 all_goals
  go_ret;exact ⟨qad (by simp <;> omega),rfl⟩
theorem Count_any (x:Nat) (w:World) (d:x<=511) :
 Calls prog 234 #[.int .i64 x] w fun e b=>e=.returned (.int .i64 (pcN x 9))/\w=b:=by
 have a:=may_any (x:Int);rw [show decide (0<=(x:Int)/\(x:Int)<=511)=true by simp;omega] at a;have c:=hI a;clear a;go_in;go_wp2_with (first | (go_at_call 267;refine (c.out _).mono ?_;rintro e b ⟨rfl,rfl⟩) | (go_at_call 268;refine (Ones_any _ _ d).mono ?_;rintro e b ⟨rfl,rfl⟩));go_ret;exact ⟨rfl,rfl⟩
theorem pc_pos:∀ x:Fin 512,0 < x.1->0 < pcN x.1 9:=by decide +kernel
def qeu (t:Int):Bool:=decide (1<=t/\t<=1000000)
def qem (t:Int):Bool:=decide (0<=t/\t<=1000000)
def okId (id:Int):Bool:=decide (10<=id/\id<=999999/\id % 10≠0)
theorem qxs (t:Int) (w:World) :
 Calls prog 208 #[.int .i64 t] w fun e a=>e=.returned (.bool (qeu t))/\w=a:=by
 go_in;go_wp2
 all_goals
  go_ret;exact ⟨qad (by unfold qeu;simp <;> omega),rfl⟩
theorem qxt (t:Int) (w:World) :
 Calls prog 255 #[.int .i64 t] w fun e a=>e=.returned (.bool (qem t))/\w=a:=by
 go_in;go_wp2
 all_goals
  go_ret;exact ⟨qad (by unfold qem;simp <;> omega),rfl⟩
theorem zas (t:Int) (w:World) :
 Calls prog 210 #[.int .i64 t] w fun e a=>e=.returned (.bool (qeu t))/\w=a:=by
 go_in;go_wp2
 all_goals
  go_ret;exact ⟨qad (by unfold qeu;simp <;> omega),rfl⟩
def idE (id:Int):Int:=if okId id then 0 else 31
theorem qnf (id:Int) (w:World) :
 Calls prog 130 #[.int .i64 id] w fun e a=>e=.returned (.int .i64 (idE id))/\w=a:=by
 go_in;go_wp2
 all_goals
  go_ret;exact ⟨qag (by unfold idE okId;split <;> simp_all <;> omega),rfl⟩
theorem idE_ne (id:Int):(idE id != 0) = !okId id:=by unfold idE;cases okId id <;> rfl
def carB (m:PM):Bool:=decide (1<=m.q/\m.q<=511/\m.pay.size<=300)
theorem qvg (m:PM) (w:World) (q:m.pay.size<=1000000) :
 Calls prog 209 #[msgV m] w fun e a=>e=.returned (.bool (carB m))/\Below w.heap.size w a:=by
 unfold msgV;by_cases k:0 < m.q
 .by_cases n:m.q<=511
  .obtain ⟨x,j⟩:∃ x:Nat,m.q=(x:Int):=⟨m.q.toNat,by omega⟩
   have f:=pc_pos ⟨x,by omega⟩ jso;simp only at f;have i:=hI (fun W=>Count_any x W jo);generalize pcN x 9=c at f i;have o:(0:Int) < (c:Int):=by omega
   have b:Hid (carB m=decide (m.pay.size<=300)):=vee.2 ⟨fun h=>h.2.2,fun h=>⟨by omega,by omega,h⟩⟩;have p:(0:Int) < (x:Int):=by omega
   rw [j];clear j k n f;go_in;go_wp2_with (go_at_call 234;refine (i.out _).mono ?_;rintro e a ⟨rfl,rfl⟩)
   all_goals
    go_ret;exact ⟨qad (by rw [b.out];simp <;> omega),bel1 w _⟩
  have d:Hid (∀ W,Calls prog 234 #[.int .i64 m.q] W fun e a=>e=.returned (.int .i64 0)/\W=a):=by
   intro W;have g:=may_any m.q W;rw [show decide (0<=m.q/\m.q<=511)=false by simp;omega] at g;have d:=hI g;clear g;go_in;go_wp2_with (go_at_call 267;refine d.out.mono ?_;rintro e a ⟨rfl,rfl⟩);go_ret;exact ⟨rfl,rfl⟩
  have b:Hid (carB m=false):=by show _=_;unfold carB;simp;omega
  rw [b.out];go_in;go_wp2_with (go_at_call 234;refine (d.out _).mono ?_;rintro e a ⟨rfl,rfl⟩);go_ret;exact ⟨rfl,bel1 w _⟩
 have b:Hid (carB m=false):=by show _=_;unfold carB;simp;omega
 rw [b.out];have l:decide ((0:Int) < m.q)=false:=by simp;omega
 go_in;go_wp2;go_ret;exact ⟨rfl,bel1 w _⟩
theorem beqI (a b:Int):(a == b)=decide (a=b):=by by_cases h:a=b <;> simp [h]
def tolB (m:PM):Bool:=decide (0<=m.abal/\m.abal < m.bal/\1<=m.t/\m.t<=1000000/\1<=m.ph/\m.ph<=4/\(0 < m.abal\/3<=m.ph))
theorem zat (m:PM) (w:World) :
 Calls prog 211 #[msgV m] w fun e c=>e=.returned (.bool (tolB m))/\Below w.heap.size w c:=by
 unfold msgV;have b:=hI (fun W=>qxs m.t W);cases a:qeu m.t
 .rw [a] at b
  have j:Hid (tolB m=false):=by show _=_;unfold tolB;unfold qeu at a;simp at a |-;omega
  rw [j.out];clear a;go_in;go_wp2_with (go_at_call 208;refine (b.out _).mono ?_;rintro e c ⟨rfl,rfl⟩)
  all_goals
   go_ret;exact ⟨rfl,bel1 w _⟩
 rw [a] at b;have d:1<=m.t/\m.t<=1000000:=by unfold qeu at a;simpa using a
 have k:=hI d;clear a d;have l:∃ f,Hid (f=decide (m.abal=0))/\(m.abal == 0)=f:=⟨_,hI rfl,beqI _ _⟩
 have n:∃ f,Hid (f=decide (m.ph=3))/\(m.ph == 3)=f:=⟨_,hI rfl,beqI _ _⟩
 have o:∃ f,Hid (f=decide (m.ph=4))/\(m.ph == 4)=f:=⟨_,hI rfl,beqI _ _⟩
 obtain ⟨p,g,v⟩:=l;obtain ⟨q,h,x⟩:=n;obtain ⟨r,i,y⟩:=o;cases p <;> cases q <;> cases r
 all_goals
  go_in;go_wp2_with (go_at_call 208;refine (b.out _).mono ?_;rintro e c ⟨rfl,rfl⟩)
 all_goals
  go_ret
  exact ⟨qad (by
   have z:=k.out;have s:=g.out;have t:=h.out;have u:=i.out;simp at s t u;unfold tolB
   first
   | (symm;rw [vbj];omega)
   | (symm;rw [vat];omega)
   | (rw [vee];omega)),bel1 w _⟩
def attL (hi:Int):Int->List (Int×Int)->Bool
 | _,[]=>true
 | lo,a :: l=>decide (lo < a.1/\a.1<=hi) && okId a.2 && attL hi a.1 l
theorem qxu {α:Type} [Inhabited α] (d:Array α) (k:Nat) (h:k < d.size):d.toList.drop k=d[k]! :: d.toList.drop (k + 1):=by
 rw [vdp (by simpa using h),vae d k h];rfl
def AttR (lo hi:Int) (d:Array (Int×Int)) (w:World) (lv iv:Value) (wr:World):Prop:=∃ (k:Nat) (last:Int),iv=.int .i64 (k:Int)/\lv=.int .i64 last/\k<=d.size/\attL hi lo d.toList=attL hi last (d.toList.drop k)/\Below w.heap.size w wr
theorem qsp (A:Option Addr) (c:Nat) (d:Array (Int×Int)) (lo hi:Int) (w:World) (h:RdK encA 2 w.heap.size w A d) (L:d.size<=1000000) :
 Calls prog 257 #[.slice A d.size c,.int .i64 lo,.int .i64 hi] w fun e s=>e=.returned (.bool (attL hi lo d.toList && decide (d.size<=200)))/\Below w.heap.size w s:=by
 have E:=hI h;clear h;go_in;go_wp2
 go_loopw [7,13] (fun I H wr=>AttR lo hi d w I H wr) (fun _ i _=>d.size - (intOf i).toNat)
 case atStart=>exact ⟨0,lo,rfl,rfl,vaj _,rfl,vag _ _⟩
 case round =>
  obtain ⟨k,last,rfl,rfl,K,l,z⟩:=hrel;have g:=hI l;have j:=hI z;clear l z;by_cases m:k < d.size
  .have M:(k:Int) < (d.size:Int):=by omega
   obtain ⟨b,J,rfl,G,f⟩:=(E.out.below j.out).at_ m;have u:=f 0 jo;have v:=f 1 jo;have o:=hI (qxu d k m);generalize d[k]! = x at u v o;simp only [vak,encA,vac,vaf] at u v;clear f;have t:=hI (fun W=>qnf x.2 W);have n:=idE_ne x.2;cases a:okId x.2
   .rw [a] at n
    have p:Hid (attL hi lo d.toList=false):=by show _=_;rw [g.out,o.out];simp [attL,a]
    clear a;go_wp2_with (go_at_call 130;refine (t.out _).mono ?_;rintro e s ⟨rfl,rfl⟩)
    all_goals
     go_ret;exact ⟨qad (by rw [p.out];rfl),qab j.out _⟩
   rw [a] at n;by_cases q:last < x.1/\x.1<=hi
   .have r:decide (x.1<=last)=false:=by simp;omega
    have y:decide (hi < x.1)=false:=by simp;omega
    have D:Hid (attL hi lo d.toList=attL hi x.1 (d.toList.drop (k + 1))):=by show _=_;rw [g.out,o.out];simp [attL,a,q]
    clear a q;go_wp2_with (go_at_call 130;refine (t.out _).mono ?_;rintro e s ⟨rfl,rfl⟩);go_roundw
    case rel=>exact ⟨k + 1,x.1,by go_num,rfl,by omega,D.out,qab j.out _⟩
    case measure=>simp [intOf];omega
   have p:Hid (attL hi lo d.toList=false):=by show _=_;rw [g.out,o.out];simp [attL];intro r y;omega
   clear a;by_cases r:x.1<=last
   .clear q
    go_wp2;go_ret;exact ⟨qad (by rw [p.out];rfl),qab j.out _⟩
   have y:hi < x.1:=by omega
   have F:decide (x.1<=last)=false:=by simp;omega
   clear q r;go_wp2;go_ret;exact ⟨qad (by rw [p.out];rfl),qab j.out _⟩
  have B:decide ((k:Int) < (d.size:Int))=false:=by simp;omega
  have C:Hid (attL hi lo d.toList=true):=by
   show _=_;rw [g.out,vcl jso];rfl
  go_wp2;go_ret;exact ⟨qad (by rw [C.out,vcn];simp <;> omega),j.out⟩
theorem none_any (t:Int) (w:World) :
 Calls prog 256 #[.int .i64 t] w fun e a=>e=.returned (.bool (!qem t))/\w=a:=by
 have b:=hI (fun W=>qxt t W);go_in;go_wp2_with (go_at_call 255;refine (b.out _).mono ?_;rintro e a ⟨rfl,rfl⟩);go_ret;exact ⟨rfl,rfl⟩
def mksB (d:Array Int):Bool:=decide (∀ j,j < d.size->qem d[j]! = true)
def IdxR (d:Array Int) (e:Ending):Prop:=∃ r:Int,e=.returned (.int .i64 r)/\((0<=r/\mksB d=false)\/(r = -1/\mksB d=true))
theorem qqo (A:Option Addr) (c:Nat) (d:Array Int) (w:World) (h:RdI w.heap.size w A d) (C:d.size<=1000000) :
 Calls prog 219 #[.slice A d.size c,.func (.func 256) #[] #[]] w fun e o=>IdxR d e/\w=o:=by
 have t:=hI h;clear h;go_in;go_wp2
 go_loop [8] (fun i=>∃ k:Nat,i=.int .i64 k/\k<=d.size/\Hid (∀ j,j < k->qem d[j]! = true)) (fun i=>d.size - (intOf i).toNat)
 case atStart=>exact ⟨0,rfl,vaj _,hI (fun j m=>absurd m jo)⟩
 case round =>
  obtain ⟨k,rfl,B,a⟩:=hrel;by_cases g:k < d.size
  .have D:(k:Int) < (d.size:Int):=by omega
   obtain ⟨b,z,rfl,u,v⟩:=t.out.at_ g;obtain ⟨x,n⟩:∃ x,d[k]! = x:=⟨_,rfl⟩
   rw [n] at v;have p:=hI n;have l:=hI (fun W=>none_any x W);clear n;cases f:qem x
   .rw [f] at l
    have r:Hid (mksB d=false):=by
     show _=_;unfold mksB;rw [vat];intro y
     have:=y k g
     rw [p.out,f] at this;cases this
    clear f;go_wp2_with (go_at_call 256;refine (l.out _).mono ?_;rintro e o ⟨rfl,rfl⟩);go_ret;exact ⟨⟨k,rfl,Or.inl ⟨by omega,r.out⟩⟩,rfl⟩
   rw [f] at l;have s:=hI f;clear f;go_wp2_with (go_at_call 256;refine (l.out _).mono ?_;rintro e o ⟨rfl,rfl⟩);go_round
   case rel =>
    refine ⟨k + 1,by go_num,by omega,hI (fun j m=>?_)⟩;rcases val j k with h | h
    .exact a.out j h
    obtain rfl:j=k:=by omega
    rw [p.out];exact s.out
   case measure=>simp [intOf];omega
  have q:decide ((k:Int) < (d.size:Int))=false:=by simp;omega
  go_wp2;go_ret;exact ⟨⟨-1,rfl,Or.inr ⟨rfl,by unfold mksB;rw [vbj];exact fun j m=>a.out j jo⟩⟩,rfl⟩
theorem qlm (A:Option Addr) (c:Nat) (d:Array Int) (w:World) (h:RdI w.heap.size w A d) (k:d.size<=1000000) :
 Calls prog 162 #[.slice A d.size c,.func (.func 256) #[] #[]] w fun e g=>e=.returned (.bool (!mksB d))/\w=g:=by
 have i:=hI (qqo A c d w h k);clear h;go_in;go_wp2_with fail;refine i.out.mono ?_;rintro e g ⟨⟨r,rfl,f⟩,rfl⟩;have a:=hI f;clear f;go_wp2;go_ret;refine ⟨qad ?_,rfl⟩;rcases a.out with ⟨j,b⟩ | ⟨j,b⟩
 .rw [b];simp;omega
 rw [b];simp;omega
def proB (m:PM):Bool:=decide (0<=m.lo/\m.lo<=1000000/\0<=m.hi/\m.hi<=1000000/\m.lo<=m.hi/\0<=m.dn/\m.dn<=1000000/\m.mks.size<=9) && (attL m.hi m.lo m.ats.toList && decide (m.ats.size<=200)) && mksB m.mks
theorem qsq (m:PM) (w:World) (j:RdM w m) :
 Calls prog 207 #[msgV m] w fun e f=>e=.returned (.bool (proB m))/\Below w.heap.size w f:=by
 have g:=hI (fun t W=>qxt t W);have i:=hI (fun W (h:Below w.heap.size w W)=>qsp m.aA m.aC m.ats m.lo m.hi W (j.next h).ra j.sa);have k:=hI (fun W (h:Below w.heap.size w W)=>qlm m.mA m.mC m.mks W (j.next h).rm j.sm);unfold msgV;by_cases d:0<=m.lo/\m.lo<=1000000/\0<=m.hi/\m.hi<=1000000/\m.lo<=m.hi/\0<=m.dn/\m.dn<=1000000/\m.mks.size<=9
 .have b:Hid (proB m=((attL m.hi m.lo m.ats.toList && decide (m.ats.size<=200)) && mksB m.mks)):=by show _=_;unfold proB;rw [vbj.2 d];simp
  obtain ⟨B,C,D,E,F,G,H,I⟩:=d;have r:qem m.lo=true:=by unfold qem;simp;omega
  have s:qem m.hi=true:=by unfold qem;simp;omega
  have u:qem m.dn=true:=by unfold qem;simp;omega
  have K:(m.mks.size:Int)<=9:=by omega
  have l:decide (m.hi < m.lo)=false:=by simp;omega
  generalize (attL m.hi m.lo m.ats.toList && decide (m.ats.size<=200))=x at i b;generalize mksB m.mks=J at k b;cases x
  .go_in
   go_wp2_with (first | (go_at_call 255;refine (g.out _ _).mono ?_;rintro e f ⟨rfl,rfl⟩) | (go_at_call 257;refine (i.out _ (bel1 w _)).mono ?_;rintro e v ⟨rfl,a⟩;have c:=hI (qaa (bel1 w _) a);clear a));go_ret;exact ⟨qad (by rw [b.out];rfl),c.out⟩
  go_in;go_wp2_with (first | (go_at_call 255;refine (g.out _ _).mono ?_;rintro e f ⟨rfl,rfl⟩) | (go_at_call 257;refine (i.out _ (bel1 w _)).mono ?_;rintro e v ⟨rfl,a⟩;have L:v.cell? ⟨w.heap.size,12,none⟩=some (.slice m.mA m.mks.size m.mC):=(a.cell (p:=⟨w.heap.size,12,none⟩) js).trans js;have c:=hI (qaa (bel1 w _) a);clear a) | (go_at_call 162;refine (k.out _ c.out).mono ?_;rintro e M ⟨rfl,rfl⟩));go_ret;exact ⟨qad (by rw [b.out];simp),c.out⟩
 have b:Hid (proB m=false):=by show _=_;unfold proB;rw [vat.2 d];simp
 clear i k;cases r:qem m.lo
 .clear d
  go_in;go_wp2_with (go_at_call 255;refine (g.out _ _).mono ?_;rintro e f ⟨rfl,rfl⟩);go_ret;exact ⟨qad b.out.symm,bel1 w _⟩
 cases s:qem m.hi
 .clear d
  go_in;go_wp2_with (go_at_call 255;refine (g.out _ _).mono ?_;rintro e f ⟨rfl,rfl⟩);go_ret;exact ⟨qad b.out.symm,bel1 w _⟩
 by_cases l:m.hi < m.lo
 .clear d
  go_in;go_wp2_with (go_at_call 255;refine (g.out _ _).mono ?_;rintro e f ⟨rfl,rfl⟩);go_ret;exact ⟨qad b.out.symm,bel1 w _⟩
 have y:decide (m.hi < m.lo)=false:=by simp;omega
 cases u:qem m.dn
 .clear d l
  go_in;go_wp2_with (go_at_call 255;refine (g.out _ _).mono ?_;rintro e f ⟨rfl,rfl⟩);go_ret;exact ⟨qad b.out.symm,bel1 w _⟩
 have z:9 < m.mks.size:=by
  have n:=r;have o:=s;have q:=u;unfold qem at n o q;simp at n o q;omega
 have A:(9:Int) < (m.mks.size:Int):=by omega
 clear d l z;go_in;go_wp2_with (go_at_call 255;refine (g.out _ _).mono ?_;rintro e f ⟨rfl,rfl⟩);go_ret;exact ⟨qad b.out.symm,bel1 w _⟩
def NameR (k:Int) (e:Ending):Prop:=∃ s:ByteArray,e=.returned (.string s)/\s.toList.isEmpty=decide (k < 1\/10 < k)
theorem Name_any (k:Int) (w:World) :
 Calls prog 138 #[.int .i64 k] w fun e c=>NameR k e/\Below w.heap.size w c:=by
 by_cases a:k < 0
 .go_in
  go_wp2;go_ret;exact ⟨⟨_,rfl,by rw [vdj];symm;simp;omega⟩,bel1 w _⟩
 by_cases d:10 < k
 .have b:decide (k < 0)=false:=by simp;omega
  have f:(11:Int)<=k:=by omega
  clear a;go_in;go_wp2;go_ret;exact ⟨⟨_,rfl,by rw [vdj];symm;simp;omega⟩,bel1 w _⟩
 have:k=0\/k=1\/k=2\/k=3\/k=4\/k=5\/k=6\/k=7\/k=8\/k=9\/k=10:=by omega
 rcases this with rfl | rfl | rfl | rfl | rfl | rfl | rfl | rfl | rfl | rfl | rfl
 all_goals
  go_in;go_wp2;go_ret;exact ⟨⟨_,rfl,by rw [vdj];rfl⟩,bel1 w _⟩
def mayB (m:PM):Bool:=if m.k=10 then proB m else okId m.id && (if m.k=1\/m.k=5 then qeu m.t && carB m else if m.k=3 then qeu m.t && qeu m.bal && carB m else if m.k=6 then qeu m.bal && carB m else if m.k=9 then carB m else if m.k=2 then qeu m.t else if m.k=7 then qeu m.bal && tolB m else qeu m.bal)
def mayF (k:Int) (t l c d:Bool):Bool:=if k=1\/k=5 then t && c else if k=3 then t && l && c else if k=6 then l && c else if k=9 then c else if k=2 then t else if k=7 then l && d else l
theorem may9_any (m:PM) (w:World) (l:RdM w m) (u:1<=m.k) (v:m.k<=9) :
 Calls prog 142 #[msgV m] w fun e h=>e=.returned (.bool (mayB m))/\Below w.heap.size w h:=by
 have n:=hI (fun W=>qnf m.id W);have k:=hI (fun W=>qxs m.t W);have j:=hI (fun W=>zas m.bal W);have f:=hI (fun W=>qvg m W l.sp);have g:=hI (fun W=>zat m W);have i:=idE_ne m.id;have c:Hid (mayB m=(okId m.id && mayF m.k (qeu m.t) (qeu m.bal) (carB m) (tolB m))):=by show _=_;unfold mayB;rw [vao jo];rfl
 unfold msgV at f g |-
 generalize okId m.id=r at i c;generalize qeu m.t=t at k c;generalize qeu m.bal=s at j c;generalize carB m=o at f c;generalize tolB m=p at g c;generalize mayB m=B at c |-
 have:m.k=1\/m.k=2\/m.k=3\/m.k=4\/m.k=5\/m.k=6\/m.k=7\/m.k=8\/m.k=9:=by omega
 clear l u v;rcases this with b | b | b | b | b | b | b | b | b
 all_goals cases r
 all_goals try (
   have q:m.k=1\/m.k=2\/m.k=3\/m.k=5:=by omega
   clear q;cases t)
 all_goals try (
   have q:m.k=3\/m.k=4\/m.k=6\/m.k=7\/m.k=8:=by omega
   clear q;cases s)
 all_goals try (
   have q:m.k=1\/m.k=3\/m.k=5\/m.k=6\/m.k=9:=by omega
   clear q;cases o)
 all_goals try (
   have q:m.k=7:=by omega
   clear q;cases p)
 all_goals
  as_aux_lemma =>
   rw [b] at f g c |-
   clear b
   go_in
   go_wp2_with (first | (go_at_call 130;refine (n.out _).mono ?_;rintro e h ⟨rfl,rfl⟩) | (go_at_call 208;refine (k.out _).mono ?_;rintro e h ⟨rfl,rfl⟩) | (go_at_call 210;refine (j.out _).mono ?_;rintro e h ⟨rfl,rfl⟩) | (go_at_call 209;refine (f.out _).mono ?_;rintro e x ⟨rfl,a⟩;have d:=hI (qaa (bel1 w _) a);clear a) | (go_at_call 211;refine (g.out _).mono ?_;rintro e x ⟨rfl,a⟩;have d:=hI (qaa (bel1 w _) a);clear a));go_ret
   first
   | exact ⟨qad (by rw [c.out];rfl),d.out⟩
   | exact ⟨qad (by rw [c.out];rfl),bel1 w _⟩
theorem may10_any (m:PM) (w:World) (f:RdM w m) (d:m.k=10) :
 Calls prog 142 #[msgV m] w fun e i=>e=.returned (.bool (mayB m))/\Below w.heap.size w i:=by
 have c:=hI (fun W (h:Below w.heap.size w W)=>qsq m W (f.next h));have g:Hid (mayB m=proB m):=by show _=_;unfold mayB;simp [d]
 unfold msgV at c |-
 rw [d] at c |-
 clear d f;go_in;go_wp2_with (go_at_call 207;refine (c.out _ (bel1 w _)).mono ?_;rintro e j ⟨rfl,a⟩;have b:=hI (qaa (bel1 w _) a);clear a);go_ret;exact ⟨qad g.out.symm,b.out⟩
theorem mayM_any (m:PM) (w:World) (a:RdM w m) (b:1<=m.k) (d:m.k<=10) :
 Calls prog 142 #[msgV m] w fun e c=>e=.returned (.bool (mayB m))/\Below w.heap.size w c:=by
 by_cases h:m.k=10
 .exact may10_any m w a h
 exact may9_any m w a b jo
end Go.Proofs.YtdcfffhoajmafaaGreat
namespace Go.Proofs.YtdcfffhoajmafaaGreat
open Go.RowKit Nb Go.Proofs.Tryz
end Go.Proofs.YtdcfffhoajmafaaGreat
