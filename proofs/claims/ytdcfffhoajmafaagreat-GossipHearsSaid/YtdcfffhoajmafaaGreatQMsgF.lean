/- Texts that the law leans on. -/
import Derived.Test.YtdcfffhoajmafaaGreatQMsgE
import Derived.Test.YtdcfffhoajmafaaGreatQErrA
set_option maxRecDepth 100000
set_option maxHeartbeats 8000000
namespace Go.Proofs.YtdcfffhoajmafaaGreat
open Go.RowKit Go.Sort Go.Lib Go.Proofs.Tryz
def chkM (m:PM):Int:=if m.k < 1\/10 < m.k then 30 else if decide (1<=m.fr/\m.fr<=9) && qcz (qhr m) m && mayB m then 0 else 2
def msgW:ByteArray:=⟨#[109,115,103]⟩
def ChkP_M (m:PM) (e:Ending) (w':World):Prop:=∃ v,e=.returned v/\ErrV w' (if chkM m=0 then [] else [msgW]) (chkM m) v
theorem RdM.bare {w:World} {m:PM} (h:RdM w m):RdM w (qhr m):=by
 refine ⟨?_,?_,?_,?_,?_⟩
 .unfold qhr;by_cases a:m.k=10
  .simp [a];exact h.ra
  simp [a];exact fun h=>absurd h js
 .unfold qhr;by_cases a:m.k=10
  .simp [a];exact h.rm
  simp [a];exact RdI.none_
 .unfold qhr;by_cases a:m.k=10
  .simp [a];exact h.sa
  simp [a]
 .unfold qhr;by_cases a:m.k=10
  .simp [a];exact h.sm
  simp [a]
 unfold qhr;have:=h.sp;simp only;split
 .exact this
 simp [ByteArray.size]
theorem Check_any (m:PM) (w:World) (F:RdM w m) :
 Calls prog 55 #[msgV m] w fun e D=>ChkP_M m e D/\Below w.heap.size w D:=by
 have P:=hI (fun W=>Name_any m.k W);by_cases E:m.k < 1\/10 < m.k
 .have u:Hid (chkM m=30):=by show _=_;unfold chkM;rw [vam E]
  have A:=hI (fun W=>qmc msgW 30 W jo);have N:decide (m.k < 1\/10 < m.k)=true:=by simpa using E
  unfold msgV;clear E F;go_in;go_wp2_with fail;refine (P.out _).mono ?_;rintro e l ⟨⟨s,rfl,O⟩,a⟩;rw [N] at O;have g:=hI (qaa (bel1 w _) a);clear a;go_wp2_with (go_at_call 139;refine (A.out _).mono ?_;rintro e K ⟨v,rfl,d,b⟩;have k:=hI d;have i:=hI (qaa g.out b);clear d b);go_ret;exact ⟨⟨v,rfl,by rw [u.out];exact Or.inr ⟨by omega,by simpa using k.out⟩⟩,i.out⟩
 have G:=hI E;have N:decide (m.k < 1\/10 < m.k)=false:=by simpa using E
 have J:1<=m.k:=by omega
 have M:m.k<=10:=by omega
 have Y:=hI F;have y:=hI (fun W (h:Below w.heap.size w W)=>mayM_any m W (F.next h) J M);have q:=hI (fun W=>bare_any m W J M);have r:=hI (fun W (h:Below w.heap.size w W)=>Same_any (qhr m) m W (F.next h).bare (F.next h));have Q:Hid (∀ x,msgV x=.agg #[.int .i64 x.k,.int .i64 x.fr,.int .i64 x.id,.int .i64 x.t,.int .i64 x.bal,.int .i64 x.abal,.int .i64 x.ph,.int .i64 x.q,.string x.pay,.int .i64 x.lo,.int .i64 x.hi,.slice x.aA x.ats.size x.aC,.slice x.mA x.mks.size x.mC,.int .i64 x.dn]):=fun _=>rfl
 obtain ⟨Z,H⟩:∃ v,msgV (qhr m)=v:=⟨_,rfl⟩
 rw [H] at q r;unfold msgV at y q r |-
 clear E F J M H;go_in;go_wp2_with fail;refine (P.out _).mono ?_;rintro e l ⟨⟨s,rfl,O⟩,a⟩;rw [N] at O;have f:w.heap.size < l.heap.size:=by have:=a.size;simp at this;omega
 have q0:∀ p:ExtW l,p.to.cell? ⟨w.heap.size,0,none⟩=some (.int .i64 m.k):=fun p=>(p.h.cell (p:=⟨w.heap.size,0,none⟩) f).trans ((a.cell (p:=⟨w.heap.size,0,none⟩) js).trans js)
 have q1:∀ p:ExtW l,p.to.cell? ⟨w.heap.size,1,none⟩=some (.int .i64 m.fr):=fun p=>(p.h.cell (p:=⟨w.heap.size,1,none⟩) f).trans ((a.cell (p:=⟨w.heap.size,1,none⟩) js).trans js)
 have q2:∀ p:ExtW l,p.to.cell? ⟨w.heap.size,2,none⟩=some (.int .i64 m.id):=fun p=>(p.h.cell (p:=⟨w.heap.size,2,none⟩) f).trans ((a.cell (p:=⟨w.heap.size,2,none⟩) js).trans js)
 have q3:∀ p:ExtW l,p.to.cell? ⟨w.heap.size,3,none⟩=some (.int .i64 m.t):=fun p=>(p.h.cell (p:=⟨w.heap.size,3,none⟩) f).trans ((a.cell (p:=⟨w.heap.size,3,none⟩) js).trans js)
 have q4:∀ p:ExtW l,p.to.cell? ⟨w.heap.size,4,none⟩=some (.int .i64 m.bal):=fun p=>(p.h.cell (p:=⟨w.heap.size,4,none⟩) f).trans ((a.cell (p:=⟨w.heap.size,4,none⟩) js).trans js)
 have q5:∀ p:ExtW l,p.to.cell? ⟨w.heap.size,5,none⟩=some (.int .i64 m.abal):=fun p=>(p.h.cell (p:=⟨w.heap.size,5,none⟩) f).trans ((a.cell (p:=⟨w.heap.size,5,none⟩) js).trans js)
 have q6:∀ p:ExtW l,p.to.cell? ⟨w.heap.size,6,none⟩=some (.int .i64 m.ph):=fun p=>(p.h.cell (p:=⟨w.heap.size,6,none⟩) f).trans ((a.cell (p:=⟨w.heap.size,6,none⟩) js).trans js)
 have q7:∀ p:ExtW l,p.to.cell? ⟨w.heap.size,7,none⟩=some (.int .i64 m.q):=fun p=>(p.h.cell (p:=⟨w.heap.size,7,none⟩) f).trans ((a.cell (p:=⟨w.heap.size,7,none⟩) js).trans js)
 have q8:∀ p:ExtW l,p.to.cell? ⟨w.heap.size,8,none⟩=some (.string m.pay):=fun p=>(p.h.cell (p:=⟨w.heap.size,8,none⟩) f).trans ((a.cell (p:=⟨w.heap.size,8,none⟩) js).trans js)
 have q9:∀ p:ExtW l,p.to.cell? ⟨w.heap.size,9,none⟩=some (.int .i64 m.lo):=fun p=>(p.h.cell (p:=⟨w.heap.size,9,none⟩) f).trans ((a.cell (p:=⟨w.heap.size,9,none⟩) js).trans js)
 have T:∀ p:ExtW l,p.to.cell? ⟨w.heap.size,10,none⟩=some (.int .i64 m.hi):=fun p=>(p.h.cell (p:=⟨w.heap.size,10,none⟩) f).trans ((a.cell (p:=⟨w.heap.size,10,none⟩) js).trans js)
 have U:∀ p:ExtW l,p.to.cell? ⟨w.heap.size,11,none⟩=some (.slice m.aA m.ats.size m.aC):=fun p=>(p.h.cell (p:=⟨w.heap.size,11,none⟩) f).trans ((a.cell (p:=⟨w.heap.size,11,none⟩) js).trans js)
 have V:∀ p:ExtW l,p.to.cell? ⟨w.heap.size,12,none⟩=some (.slice m.mA m.mks.size m.mC):=fun p=>(p.h.cell (p:=⟨w.heap.size,12,none⟩) f).trans ((a.cell (p:=⟨w.heap.size,12,none⟩) js).trans js)
 have X:∀ p:ExtW l,p.to.cell? ⟨w.heap.size,13,none⟩=some (.int .i64 m.dn):=fun p=>(p.h.cell (p:=⟨w.heap.size,13,none⟩) f).trans ((a.cell (p:=⟨w.heap.size,13,none⟩) js).trans js)
 have g:=hI (qaa (bel1 w _) a);have o:=hI (fun p:ExtW l=>y.out p.to (qaa g.out p.h));have t:=hI (fun p:ExtW l=>q.out p.to);have n:=hI (fun p:ExtW l=>r.out p.to (qaa g.out p.h));clear a y q r;by_cases R:m.fr < 1
 .have C:decide (m.fr < 1)=true:=by simp;omega
  have u:Hid (chkM m=2):=by show _=_;unfold chkM;rw [vao G.out];simp ;intro h;omega
  have A:=hI (fun W=>qmc msgW 2 W jo);go_wp2_with fail;refine wprX ?_
  repeat (go_big_quiet_step ((first | (go_at_call 141;exact Calls.ext_of (t.out _)) | (go_at_call 140;exact Calls.ext_of (n.out _)) | (go_at_call 142;exact Calls.ext_of (o.out _)))))
  refine wpQn fun D c=>?_
  have j:=hI (qaa g.out c);clear c;go_wp2_with (go_at_call 139;refine (A.out _).mono ?_;rintro e K ⟨v,rfl,d,b⟩;have k:=hI d;have i:=hI (qaa j.out b);clear d b);go_ret;exact ⟨⟨v,rfl,by rw [u.out];exact Or.inr ⟨by omega,by simpa using k.out⟩⟩,i.out⟩
 by_cases S:9 < m.fr
 .have C:decide (m.fr < 1)=false:=by simp;omega
  have I:decide (9 < m.fr)=true:=by simp;omega
  have u:Hid (chkM m=2):=by show _=_;unfold chkM;rw [vao G.out];simp ;intro J h;omega
  have A:=hI (fun W=>qmc msgW 2 W jo);go_wp2_with fail;refine wprX ?_
  repeat (go_big_quiet_step ((first | (go_at_call 141;exact Calls.ext_of (t.out _)) | (go_at_call 140;exact Calls.ext_of (n.out _)) | (go_at_call 142;exact Calls.ext_of (o.out _)))))
  refine wpQn fun D c=>?_
  have j:=hI (qaa g.out c);clear c;go_wp2_with (go_at_call 139;refine (A.out _).mono ?_;rintro e K ⟨v,rfl,d,b⟩;have k:=hI d;have i:=hI (qaa j.out b);clear d b);go_ret;exact ⟨⟨v,rfl,by rw [u.out];exact Or.inr ⟨by omega,by simpa using k.out⟩⟩,i.out⟩
 have C:decide (m.fr < 1)=false:=by simp;omega
 have I:decide (9 < m.fr)=false:=by simp;omega
 have L:Hid (decide (1<=m.fr/\m.fr<=9)=true):=by show _=_;rw [vbj];omega
 cases z:qcz (qhr m) m
 .rw [z] at n
  have u:Hid (chkM m=2):=by show _=_;unfold chkM;rw [vao G.out];simp [z]
  have A:=hI (fun W=>qmc msgW 2 W jo);go_wp2_with fail;refine wprX ?_
  repeat (go_big_quiet_step ((first | (go_at_call 141;exact Calls.ext_of (t.out _)) | (go_at_call 140;exact Calls.ext_of (n.out _)) | (go_at_call 142;exact Calls.ext_of (o.out _)))))
  refine wpQn fun D c=>?_
  have j:=hI (qaa g.out c);clear c;go_wp2_with (go_at_call 139;refine (A.out _).mono ?_;rintro e K ⟨v,rfl,d,b⟩;have k:=hI d;have i:=hI (qaa j.out b);clear d b);go_ret;exact ⟨⟨v,rfl,by rw [u.out];exact Or.inr ⟨by omega,by simpa using k.out⟩⟩,i.out⟩
 cases B:mayB m
 .rw [z] at n
  rw [B] at o;have u:Hid (chkM m=2):=by show _=_;unfold chkM;rw [vao G.out];simp [B]
  have A:=hI (fun W=>qmc msgW 2 W jo);go_wp2_with fail;refine wprX ?_
  repeat (go_big_quiet_step ((first | (go_at_call 141;exact Calls.ext_of (t.out _)) | (go_at_call 140;exact Calls.ext_of (n.out _)) | (go_at_call 142;exact Calls.ext_of (o.out _)))))
  refine wpQn fun D c=>?_
  have j:=hI (qaa g.out c);clear c;go_wp2_with (go_at_call 139;refine (A.out _).mono ?_;rintro e K ⟨v,rfl,d,b⟩;have k:=hI d;have i:=hI (qaa j.out b);clear d b);go_ret;exact ⟨⟨v,rfl,by rw [u.out];exact Or.inr ⟨by omega,by simpa using k.out⟩⟩,i.out⟩
 rw [z] at n;rw [B] at o;have u:Hid (chkM m=0):=by show _=_;unfold chkM;rw [vao G.out,L.out,z,B];rfl
 go_wp2_with fail;refine wprX ?_
 repeat (go_big_quiet_step ((first | (go_at_call 141;exact Calls.ext_of (t.out _)) | (go_at_call 140;exact Calls.ext_of (n.out _)) | (go_at_call 142;exact Calls.ext_of (o.out _)))))
 refine wpQn fun D c=>?_
 have j:=hI (qaa g.out c);clear c;go_wp2;go_ret;exact ⟨⟨_,rfl,by rw [u.out];exact Or.inl ⟨rfl,rfl,rfl⟩⟩,j.out⟩
end Go.Proofs.YtdcfffhoajmafaaGreat
namespace Go.Proofs.YtdcfffhoajmafaaGreat
open Go.RowKit Go.Extern.Stop Go.Stop Go.Extern Go.Sort Go.Proofs.Tryz
section
variable {P:Program} (w:World)
end
end Go.Proofs.YtdcfffhoajmafaaGreat
namespace Go.Proofs.YtdcfffhoajmafaaGreat
open Go.RowKit Go.Sort Go.Lib Go.Proofs.Tryz
def OutV (w:World) (l:List ByteArray) (c:Int) (v:Value):Prop:=match l with
 | []=>v=.pointer none
 | op :: l=>∃ b o u,v=.pointer (some ⟨b,o,none⟩)/\w.cell? ⟨b,o,none⟩=some (.string op)/\w.cell? ⟨b,o + 1,none⟩=some u/\Chain w l c u
theorem OutV.below {w w':World} (a:Below w.heap.size w w') {l:List ByteArray} {c:Int} {v:Value} (h:OutV w l c v):OutV w' l c v:=by
 cases l with
 | nil=>exact h
 | cons op l =>
   obtain ⟨b,o,u,f,d,e,g⟩:=h;exact ⟨b,o,u,f,(a.cell (p:=⟨b,o,none⟩) (qgm d)).trans d,(a.cell (p:=⟨b,o + 1,none⟩) (qgm e)).trans e,g.below a⟩
end Go.Proofs.YtdcfffhoajmafaaGreat
namespace Go.Proofs.YtdcfffhoajmafaaGreat
open Go.RowKit Nb Go.Proofs.Tryz
structure OkM (m:PM):Prop where
 k:1<=m.k/\m.k<=10
 fr:1<=m.fr/\m.fr<=9
 id:0<=m.id/\m.id<=999999
 t:0<=m.t/\m.t<=1000000
 bal:0<=m.bal/\m.bal<=1000000
 abal:0<=m.abal/\m.abal<=1000000
 ph:0<=m.ph/\m.ph<=4
 q:0<=m.q/\m.q<=511
 pay:m.pay.size<=300
 lo:0<=m.lo/\m.lo<=1000000
 hi:0<=m.hi/\m.hi<=1000000
 dn:0<=m.dn/\m.dn<=1000000
 ats:m.ats.size<=200
 att:∀ a ∈ m.ats.toList,(0<=a.1/\a.1<=1000000)/\0<=a.2/\a.2<=999999
 mks:m.mks.size<=9
 mkv:∀ j,j < m.mks.size->0<=m.mks[j]!/\m.mks[j]!<=1000000
def flA (d:List (Int×Int)):List Int:=d.flatMap fun a=>[a.1,a.2]
def m3 (m:PM):Array Int:=#[m.lo,m.hi,m.dn]
theorem qmo {d:Array Int} (h:∀ x ∈ d.toList,0<=x/\x<=9223372036854775807):LayN d:=by
 intro i a;rw [vae d i a];exact h _ js
theorem OkM.l3 {m:PM} (h:OkM m):LayN (m3 m):=by
 have b:=h.lo;have c:=h.hi;have d:=h.dn;refine qmo ?_;intro x a;simp [m3] at a;omega
theorem OkM.la {m:PM} (h:OkM m):LayN (flA m.ats.toList).toArray:=by
 refine qmo ?_;intro x b;simp only [flA,List.mem_flatMap] at b;obtain ⟨a,c,b⟩:=b
 have:=h.att a c
 simp at b;omega
end Go.Proofs.YtdcfffhoajmafaaGreat
namespace Go.Proofs.YtdcfffhoajmafaaGreat
open Go.RowKit Go.Sort Go.Lib Go.Proofs.Tryz
def hasT (k:Int):List UInt8:=if k=1\/k=5 then [105,116,99] else if k=2 then [105,116] else if k=3 then [105,116,98,99] else if k=4\/k=8 then [105,98] else if k=6 then [105,98,99] else if k=7 then [105,116,98,97] else if k=9 then [105,99] else if k=10 then [112] else []
theorem hasT_len (k:Int):(hasT k).length<=4:=by unfold hasT;(repeat' split) <;> simp
theorem qup {a b:ByteArray} (h:a=b):Ending.returned (.string a)=.returned (.string b):=by rw [h]
theorem qwq (k:Int) (w:World) :
 Calls prog 177 #[.int .i64 k] w fun e d=>e=.returned (.string ⟨(hasT k).toArray⟩)/\Below w.heap.size w d:=by
 by_cases b:k < 1
 .have a:Hid (hasT k=[]):=by show _=_;unfold hasT;(repeat' rw [vao jo])
  go_in;go_wp2;go_ret;exact ⟨qup (by rw [a.out]),bel1 w _⟩
 by_cases f:10 < k
 .have a:Hid (hasT k=[]):=by show _=_;unfold hasT;(repeat' rw [vao jo])
  have c:decide (k < 1)=false:=by simp;omega
  clear b;go_in;go_wp2;go_ret;exact ⟨qup (by rw [a.out]),bel1 w _⟩
 have:k=1\/k=2\/k=3\/k=4\/k=5\/k=6\/k=7\/k=8\/k=9\/k=10:=by omega
 rcases this with rfl | rfl | rfl | rfl | rfl | rfl | rfl | rfl | rfl | rfl
 all_goals
  go_in;go_wp2;go_ret;exact ⟨qup rfl,bel1 w _⟩
def hasB (k:Int) (c:Nat):Bool:=(hasT k).any fun x=>decide (x.toNat=c)
theorem qkm (k:Int) (c:Nat) (w:World) :
 Calls prog 178 #[.int .i64 k,.int .u8 c] w fun e D=>e=.returned (.bool (hasB k c))/\Below w.heap.size w D:=by
 have r:=hI (qwq k w);have v:=hasT_len k;obtain ⟨s,p⟩:∃ s:ByteArray,s=⟨(hasT k).toArray⟩:=⟨_,rfl⟩
 rw [<-p] at r;have q:Hid (s.data.toList=hasT k):=by
  have z:s.data.toList=hasT k:=by rw [p]
  exact z
 have C:s.size<=4:=by
  have A:s.size=s.data.toList.length:=by simp
  rw [A,q.out];exact v
 clear p v;go_in;go_wp2_with fail;refine r.out.mono ?_;rintro e G ⟨rfl,g⟩;have b:=hI g;clear g;go_wp2
 go_loop [6] (fun i=>∃ n:Nat,i=.int .i64 n/\n<=s.size/\Hid (hasB k c=(s.data.toList.drop n).any fun x=>decide (x.toNat=c))) (fun i=>s.size - (intOf i).toNat)
 case atStart=>exact ⟨0,rfl,vaj _,by show _=_;rw [List.drop_zero,q.out];rfl⟩
 case round =>
  obtain ⟨n,rfl,E,a⟩:=hrel;by_cases l:n < s.size
  .have F:(n:Int) < (s.size:Int):=by omega
   have j:=drop_at s n l;have u:=fun (x:Nat) (m:s[n].toNat=x)=>idx_str s n l x m (n:Int) rfl
   have d:=hI j;obtain ⟨x,m⟩:∃ x,s[n].toNat=x:=⟨_,rfl⟩
   have B:=u x m;have t:=hI m;clear u j m;have o:=beqI (x:Int) (c:Int);by_cases h:x=c
   .rw [show decide ((x:Int)=(c:Int))=true by simp [h]] at o
    have f:Hid (hasB k c=true):=by show _=_;rw [a.out,d.out];simp [t.out,h]
    clear h;go_wp2;go_ret;exact ⟨qad f.out.symm,b.out⟩
   rw [show decide ((x:Int)=(c:Int))=false by simp;omega] at o;have f:Hid (hasB k c=(s.data.toList.drop (n + 1)).any fun x=>decide (x.toNat=c)):=by show _=_;rw [a.out,d.out];simp [t.out,h]
   clear h;go_wp2;go_round
   case rel=>exact ⟨n + 1,by go_num,by omega,f⟩
   case measure=>simp [intOf];omega
  have y:decide ((n:Int) < (s.size:Int))=false:=by simp;omega
  have f:Hid (hasB k c=false):=by show _=_;rw [a.out,vcl jso];rfl
  go_wp2;go_ret;exact ⟨qad f.out.symm,b.out⟩
def inB (f:Bool) (n lo hi:Int):Bool:=if f then decide (lo<=n/\n<=hi) else decide (n=0)
theorem in_any (f:Bool) (n lo hi:Int) (w:World) :
 Calls prog 179 #[.bool f,.int .i64 n,.int .i64 lo,.int .i64 hi] w fun e b=>e=.returned (.bool (inB f n lo hi))/\w=b:=by
 have c:=beqI n 0;cases f
 .have a:Hid (inB false n lo hi=decide (n=0)):=rfl
  go_in;go_wp2;go_ret;exact ⟨qad (by rw [a.out]),rfl⟩
 have a:Hid (inB true n lo hi=decide (lo<=n/\n<=hi)):=rfl;go_in;go_wp2
 all_goals
  go_ret;exact ⟨qad (by rw [a.out];simp <;> omega),rfl⟩
def qkn (id:Int):Int:=if okId id then id % 10 else 0
def seqN (id:Int):Int:=if okId id then id / 10 else 0
theorem qos (id:Int) (w:World) :
 Calls prog 117 #[.int .i64 id] w fun e a=>e=.returned (.tuple #[.int .i64 (qkn id),.int .i64 (seqN id)])/\w=a:=by
 go_in;go_wp2
 all_goals
  go_ret2;exact ⟨qvz (by unfold qkn okId;split <;> simp_all <;> omega) (by unfold seqN okId;split <;> simp_all <;> omega),rfl⟩
theorem qrw (id:Int):decide (0 < qkn id)=okId id:=by
 unfold qkn;cases h:okId id
 .simp
 unfold okId at h;simp at h |-
 omega
def proX (lo hi dn:Int) (ats:Array (Int×Int)) (mks:Array Int):Bool:=decide (0<=lo/\lo<=1000000/\0<=hi/\hi<=1000000/\lo<=hi/\0<=dn/\dn<=1000000/\mks.size<=9) && (attL hi lo ats.toList && decide (ats.size<=200)) && mksB mks
def MkR (d:Array Int) (iv:Value):Prop:=∃ k:Nat,iv=.int .i64 (k:Int)/\k<=d.size/\∀ j,j < k->qem d[j]! = true
def AtR (lo hi:Int) (ats:Array (Int×Int)) (W0:World) (iv:Value) (wr:World):Prop:=∃ (k:Nat) (last:Int),iv=.int .i64 (k:Int)/\k<=ats.size/\(k=0->last=lo)/\(∀ j,j + 1=k->last=ats[j]!.1)/\lo<=last/\attL hi lo ats.toList=attL hi last (ats.toList.drop k)/\Below W0.heap.size W0 wr
theorem rPro_all (k0 fr id t bal abal ph q:Int) (pay:ByteArray) (lo hi:Int) (aA:Option Addr) (aC:Nat) (ats:Array (Int×Int)) (mA:Option Addr) (mC:Nat) (mks:Array Int) (dn:Int) (w:World) (ra:RdK encA 2 w.heap.size w aA ats) (rm:RdI w.heap.size w mA mks) (sa:ats.size<=1000000) (sm:mks.size<=1000000) :
 Calls prog 180 #[.agg #[.int .i64 k0,.int .i64 fr,.int .i64 id,.int .i64 t,.int .i64 bal,.int .i64 abal,.int .i64 ph,.int .i64 q,.string pay,.int .i64 lo,.int .i64 hi,.slice aA ats.size aC,.slice mA mks.size mC,.int .i64 dn]] w fun e u=>e=.returned (.bool (proX lo hi dn ats mks))/\Below w.heap.size w u:=by
 by_cases hb:0<=lo/\lo<=hi/\hi<=1000000/\0<=dn/\dn<=1000000/\mks.size<=9/\ats.size<=200
 .have B:Hid (proX lo hi dn ats mks=(attL hi lo ats.toList && mksB mks)):=by
   show _=_;unfold proX;rw [vbj.2 (show 0<=lo/\lo<=1000000/\0<=hi/\hi<=1000000/\lo<=hi/\0<=dn/\dn<=1000000/\mks.size<=9 by omega),vbj.2 hb.2.2.2.2.2.2];simp
  obtain ⟨b1,b2,b3,b4,b5,b6,b7⟩:=hb;have d1:decide (hi < lo)=false:=by simp;omega
  have d2:(mks.size:Int)<=9:=by omega
  have d3:(ats.size:Int)<=200:=by omega
  have RA:=hI ra;have RM:=hI rm;clear ra rm;go_in;go_wp2
  go_loop [3] (fun i=>MkR mks i) (fun i=>mks.size - (intOf i).toNat)
  case atStart=>exact ⟨0,rfl,vaj _,fun j L=>absurd L jo⟩
  case round =>
   obtain ⟨k,rfl,hk,D⟩:=hrel;have C:=hI D;clear D;by_cases V:k < mks.size
   .have kz:(k:Int) < (mks.size:Int):=by omega
    obtain ⟨b,z,rfl,R,hc⟩:=RM.out.at_ V;obtain ⟨x,J⟩:∃ x,mks[k]! = x:=⟨_,rfl⟩
    rw [J] at hc;have M:=hI J;clear J;by_cases y:0<=x/\x<=1000000
    .have N:decide (x < 0)=false:=by simp;omega
     have g2:decide (1000000 < x)=false:=by simp;omega
     have HM:Hid (qem x=true):=by show _=_;unfold qem;simpa using y
     clear y;go_wp2;go_round
     case rel =>
      refine ⟨k + 1,by go_num,by omega,fun j L=>?_⟩;rcases val j k with h | h
      .exact C.out j h
      obtain rfl:j=k:=by omega
      rw [M.out];exact HM.out
     case measure=>simp [intOf];omega
    have A:Hid (mksB mks=false):=by
     show _=_;unfold mksB;rw [vat];intro hh
     have:=hh k V
     rw [M.out] at this;unfold qem at this;simp at this;exact y this
    by_cases N:x < 0
    .clear y
     go_wp2;go_ret;exact ⟨qad (by rw [B.out,A.out];simp),bel1 w _⟩
    have O:decide (x < 0)=false:=by simp;omega
    have g2:1000000 < x:=by omega
    clear y N;go_wp2;go_ret;exact ⟨qad (by rw [B.out,A.out];simp),bel1 w _⟩
   have a9:decide ((k:Int) < (mks.size:Int))=false:=by simp;omega
   have a3:Hid (mksB mks=true):=by show _=_;unfold mksB;rw [vbj];exact fun j L=>C.out j jo
   go_wp2
   go_loopw [4] (fun i wr=>AtR lo hi ats (w.alloc (.cells #[.int .i64 k0,.int .i64 fr,.int .i64 id,.int .i64 t,.int .i64 bal,.int .i64 abal,.int .i64 ph,.int .i64 q,.string pay,.int .i64 lo,.int .i64 hi,.slice aA ats.size aC,.slice mA mks.size mC,.int .i64 dn] 37)) i wr) (fun i _=>ats.size - (intOf i).toNat)
   case atStart=>exact ⟨0,lo,rfl,vaj _,(fun _=>rfl),(fun j L=>by omega),by omega,rfl,vag _ _⟩
   case round =>
    obtain ⟨n,last,rfl,hn,T,U,b9,Q,hB⟩:=hrel;have r:=hI Q;have v:=hI hB;have a1:=hI T;have a2:=hI U;have H:w.heap.size < wr.heap.size:=by have:=hB.size;simp at this;omega
    have q9:∀ p:ExtW wr,p.to.cell? ⟨w.heap.size,9,none⟩=some (.int .i64 lo):=fun p=>(p.h.cell (p:=⟨w.heap.size,9,none⟩) H).trans ((v.out.cell (p:=⟨w.heap.size,9,none⟩) js).trans js)
    have c1:∀ p:ExtW wr,p.to.cell? ⟨w.heap.size,10,none⟩=some (.int .i64 hi):=fun p=>(p.h.cell (p:=⟨w.heap.size,10,none⟩) H).trans ((v.out.cell (p:=⟨w.heap.size,10,none⟩) js).trans js)
    have c2:∀ p:ExtW wr,p.to.cell? ⟨w.heap.size,11,none⟩=some (.slice aA ats.size aC):=fun p=>(p.h.cell (p:=⟨w.heap.size,11,none⟩) H).trans ((v.out.cell (p:=⟨w.heap.size,11,none⟩) js).trans js)
    have c3:wr.cell? ⟨w.heap.size,11,none⟩=some (.slice aA ats.size aC):=(v.out.cell (p:=⟨w.heap.size,11,none⟩) js).trans js;have P:Below w.heap.size w wr:=qaa (bel1 w _) v.out;have g:=hI P;clear Q hB T U P;by_cases E:n < ats.size
    .have nz:(n:Int) < (ats.size:Int):=by omega
     obtain ⟨b,z,rfl,R,f⟩:=(RA.out.below g.out).at_ E;have Y:=f 0 jo;have e1:=f 1 jo;have G:=hI (qxu ats n E);have S:b < wr.heap.size:=vad R g.out.size;obtain ⟨x,J⟩:∃ x,ats[n]! = x:=⟨_,rfl⟩
     rw [J] at Y e1 G;have M:=hI J;simp only [vak,encA,vac,vaf] at Y e1;have q0:∀ p:ExtW wr,p.to.cell? ⟨b,z + n * 2,none⟩=some (.int .i64 x.1):=fun p=>(p.h.cell (p:=⟨b,z + n * 2,none⟩) S).trans Y
     have c:=hI (fun W=>qos x.2 W);have o:=qrw x.2;clear f J Y;cases d:okId x.2
     .have K:(qkn x.2 == 0)=true:=by unfold qkn;rw [d];rfl
      have A:Hid (attL hi lo ats.toList=false):=by show _=_;rw [r.out,G.out];simp [attL,d]
      clear d o;generalize qkn x.2=X at K c;go_wp2_with (go_at_call 117;refine (c.out _).mono ?_;rintro e u ⟨rfl,rfl⟩);refine wprX ?_
      repeat (go_big_quiet_step (fail))
      refine wpQn fun u a=>?_
      have s:=hI (qaa v.out a);have l:=hI (qaa g.out a);clear a;go_wp2;go_ret;exact ⟨qad (by rw [B.out,A.out];simp),l.out⟩
     have K:(qkn x.2 == 0)=false:=by rw [d] at o;simp at o |-;omega
     clear o;by_cases N:x.1<=lo
     .have A:Hid (attL hi lo ats.toList=false):=by show _=_;rw [r.out,G.out];simp [attL];intro Z h2;omega
      have O:decide (x.1<=lo)=true:=by simp;omega
      clear d;generalize qkn x.2=X at K c;go_wp2_with (go_at_call 117;refine (c.out _).mono ?_;rintro e u ⟨rfl,rfl⟩);refine wprX ?_
      repeat (go_big_quiet_step (fail))
      refine wpQn fun u a=>?_
      have s:=hI (qaa v.out a);have l:=hI (qaa g.out a);clear a;go_wp2;go_ret;exact ⟨qad (by rw [B.out,A.out];simp),l.out⟩
     have O:decide (x.1<=lo)=false:=by simp;omega
     by_cases g2:hi < x.1
     .have A:Hid (attL hi lo ats.toList=false):=by show _=_;rw [r.out,G.out];simp [attL];intro Z h2;omega
      have a5:decide (hi < x.1)=true:=by simp;omega
      clear d N;generalize qkn x.2=X at K c;go_wp2_with (go_at_call 117;refine (c.out _).mono ?_;rintro e u ⟨rfl,rfl⟩);refine wprX ?_
      repeat (go_big_quiet_step (fail))
      refine wpQn fun u a=>?_
      have s:=hI (qaa v.out a);have l:=hI (qaa g.out a);clear a;go_wp2;go_ret;exact ⟨qad (by rw [B.out,A.out];simp),l.out⟩
     have a5:decide (hi < x.1)=false:=by simp;omega
     by_cases g0:0 < n
     .obtain ⟨F,I⟩:∃ F,F + 1=n:=⟨n - 1,by omega⟩
      have a4:decide ((0:Int) < (n:Int))=true:=by simp;omega
      have b0:(n:Int) - 1=(F:Int):=by omega
      have c0:(F:Int) < (ats.size:Int):=by omega
      obtain ⟨b',b8,e',a8,f'⟩:=(RA.out.below g.out).at_ (i:=F) jo;injection e' with e'
      injection e' with eb eo
      subst eb eo;have u0:=f' 0 jo;have m:=a2.out F I;simp only [vak,encA,vac] at u0;rw [<-m] at u0;have q2:∀ p:ExtW wr,p.to.cell? ⟨b,z + F * 2,none⟩=some (.int .i64 last):=fun p=>(p.h.cell (p:=⟨b,z + F * 2,none⟩) S).trans u0
      clear f' u0 m;by_cases g3:x.1<=last
      .have A:Hid (attL hi lo ats.toList=false):=by show _=_;rw [r.out,G.out];simp [attL];intro Z h2;omega
       have a6:decide (x.1<=last)=true:=by simp;omega
       clear d N g2 I;generalize qkn x.2=X at K c;go_wp2_with (go_at_call 117;refine (c.out _).mono ?_;rintro e u ⟨rfl,rfl⟩);refine wprX ?_
       repeat (go_big_quiet_step (fail))
       refine wpQn fun u a=>?_
       have s:=hI (qaa v.out a);have l:=hI (qaa g.out a);clear a;go_wp2;go_ret;exact ⟨qad (by rw [B.out,A.out];simp),l.out⟩
      have HN:Hid (attL hi lo ats.toList=attL hi x.1 (ats.toList.drop (n + 1))):=by show _=_;rw [r.out,G.out];simp [attL,d];intro h;omega
      have a6:decide (x.1<=last)=false:=by simp;omega
      clear d I;generalize qkn x.2=X at K c;go_wp2_with (go_at_call 117;refine (c.out _).mono ?_;rintro e u ⟨rfl,rfl⟩);refine wprX ?_
      repeat (go_big_quiet_step (fail))
      refine wpQn fun u a=>?_
      have s:=hI (qaa v.out a);have l:=hI (qaa g.out a);clear a;go_wp2;go_roundw
      case rel=>exact ⟨n + 1,x.1,by go_num,by omega,(fun h=>by omega),(fun j L=>by have e:j=n:=jo;rw [e,M.out]),by omega,HN.out,s.out⟩
      case measure=>simp [intOf];omega
     have a4:decide ((0:Int) < (n:Int))=false:=by simp;omega
     have m:=a1.out jo;have HN:Hid (attL hi lo ats.toList=attL hi x.1 (ats.toList.drop (n + 1))):=by show _=_;rw [r.out,G.out];simp [attL,d];intro h;omega
     clear d m;generalize qkn x.2=X at K c;go_wp2_with (go_at_call 117;refine (c.out _).mono ?_;rintro e u ⟨rfl,rfl⟩);refine wprX ?_
     repeat (go_big_quiet_step (fail))
     refine wpQn fun u a=>?_
     have s:=hI (qaa v.out a);have l:=hI (qaa g.out a);clear a;go_wp2;go_roundw
     case rel=>exact ⟨n + 1,x.1,by go_num,by omega,(fun h=>by omega),(fun j L=>by have e:j=n:=jo;rw [e,M.out]),by omega,HN.out,s.out⟩
     case measure=>simp [intOf];omega
    have a7:decide ((n:Int) < (ats.size:Int))=false:=by simp;omega
    have HE:Hid (attL hi lo ats.toList=true):=by
     show _=_;rw [r.out,vcl jso];rfl
    go_wp2;go_ret;exact ⟨qad (by rw [B.out,HE.out,a3.out];rfl),g.out⟩
 have B:Hid (proX lo hi dn ats mks=false):=by
  show _=_;unfold proX;by_cases Z:0<=lo/\lo<=1000000/\0<=hi/\hi<=1000000/\lo<=hi/\0<=dn/\dn<=1000000/\mks.size<=9
  .have:¬ ats.size<=200:=by omega
   simp [this]
  rw [vat.2 Z];simp
 have a0:=hI hb;clear hb ra rm;go_in;go_wp2
 all_goals first
  | (go_ret;exact ⟨qad B.out.symm,bel1 w _⟩)
  | (exfalso;have:=a0.out;omega)
end Go.Proofs.YtdcfffhoajmafaaGreat
namespace Go.Proofs.YtdcfffhoajmafaaGreat
open Go.RowKit Nb Go.Proofs.Tryz
def c4 (m:PM):Bool:=decide (1<=m.fr) && decide (m.fr<=9) && (okId m.id == hasB m.k 105) && (okId m.id || decide (m.id=0))
def c5 (m:PM):Bool:=inB (hasB m.k 116) m.t 1 1000000 && inB (hasB m.k 98) m.bal 1 1000000 && inB (hasB m.k 99) m.q 1 511 && decide (m.pay.size<=300) && (hasB m.k 99 || decide (m.pay=⟨#[]⟩))
def c7 (m:PM):Bool:=decide (0<=m.abal) && decide (m.abal < m.bal) && decide (1<=m.ph) && decide (m.ph<=4) && (decide (0 < m.abal) || decide (3<=m.ph))
def c8 (m:PM):Bool:=decide (m.abal=0) && decide (m.ph=0)
def c11 (m:PM):Bool:=decide (m.lo=0) && decide (m.hi=0) && decide (m.dn=0) && decide (m.ats.size=0) && decide (m.mks.size=0)
def qle (m:PM):Int:=if m.k < 1\/10 < m.k then 30 else if c4 m && c5 m && (if hasB m.k 97 then c7 m else c8 m) && (if hasB m.k 112 then proB m else c11 m) then 0 else 2
theorem size0 {α:Type} (d:Array α):d.size=0↔#[]=d:=by
 constructor
 .intro h;exact (var h).symm
 rintro rfl;rfl
theorem chkR_eq (m:PM):qle m=chkM m:=by
 unfold qle chkM;by_cases a:m.k < 1\/10 < m.k
 .rw [vam a,vam a]
 rw [vao a,vao a];have d:(c4 m && c5 m && (if hasB m.k 97 then c7 m else c8 m) && (if hasB m.k 112 then proB m else c11 m))=(decide (1<=m.fr/\m.fr<=9) && qcz (qhr m) m && mayB m):=by
  have c:m.k=1\/m.k=2\/m.k=3\/m.k=4\/m.k=5\/m.k=6\/m.k=7\/m.k=8\/m.k=9\/m.k=10:=by omega
  unfold c4 c5 c7 c8 c11 qcz qhr mayB carB tolB;generalize i:proB m=l;have b:okId m.id=true->m.id≠0:=by intro h;unfold okId at h;rw [vap] at h;omega
  generalize okId m.id=k at b |-
  have j:m.pay=⟨#[]⟩->m.pay.size<=300:=by intro h;rw [h];decide
  have f:=size0 m.ats;have g:=size0 m.mks;rcases c with e | e | e | e | e | e | e | e | e | e
  all_goals
   rw [vbd];simp only [e,hasB,hasT,inB,qeu,f,g];simp
   grind
 rw [d]
end Go.Proofs.YtdcfffhoajmafaaGreat
