/- Texts that the law leans on. -/
import Derived.Laws.AppendOwnNone
import Derived.Test.YtdcfffhoajmafaaGreatQRead
set_option maxRecDepth 100000
set_option maxHeartbeats 4000000
namespace Go.Proofs.YtdcfffhoajmafaaGreat
open Go.RowKit Go.Sort Go.Lib Go.Proofs.Tryz
section
variable {α:Type} [Inhabited α] {enc:α->List Value} {k:Nat} {w w':World} {A:Option Addr} {d:Array α} {B base:Nat} {e:TypeId} {v:Value}
theorem qgp (enc:α->List Value) (k:Nat) (d:Array α) (t:Nat) (h:t < d.size * k):(flatK enc k d).toList[t]?=some (enc d[t / k]!)[t % k]!:=by
 have a:t < (flatK enc k d).size:=by rw [size_flatK];exact h
 rw [vbh,vbe a,<-get_flatK enc k d t h,vae _ t a]
theorem qax (g:∀ x,(enc x).length=k) (d:Array α) (x:α):(flatK enc k (d.push x)).toList=(flatK enc k d).toList ++ enc x:=by
 apply vec;intro t;have e:(d.size + 1) * k=d.size * k + k:=by rw [Nat.add_mul,Nat.one_mul]
 rcases val t (d.size * k) with a | a
 .rw [vej (by simpa using a),qgp _ _ _ _ a,qgp _ _ _ _ (by rw [vbk,e];omega)]
  have l:t / k < d.size:=by
   rw [Nat.mul_comm] at a;exact Nat.div_lt_of_lt_mul a
  have b:(d.push x)[t / k]! = d[t / k]!:=by
   rw [vae (d.push x) _ jso,vae d _ l,Array.getElem_push_lt]
  rw [b]
 rw [vei (by simpa using a)];have j:(flatK enc k d).toList.length=d.size * k:=by simp
 rw [j];rcases val t (d.size * k + k) with i | i
 .obtain ⟨c,rfl⟩:∃ c,t=d.size * k + c:=⟨t - d.size * k,by omega⟩
  have f:c < k:=by omega
  have h:d.size * k + c < (flatK enc k (d.push x)).size:=by simp [e];omega
  rw [vbh,vbe h,<-vae (flatK enc k (d.push x)) _ h,qfw _ _ _ _ _ js f];have b:(d.push x)[d.size]! = x:=by rw [vae (d.push x) d.size js];simp
  rw [b,vfh,vdg,vbl (by rw [g];exact f)];rfl
 rw [vbr (by simp [e];omega),vbr (by rw [g];omega)]
theorem qkq (a:∀ x,(enc x).length=k) (d:Array α):∀ l:List α,(flatK enc k (d ++ l.toArray)).toList=(flatK enc k d).toList ++ l.flatMap enc
 | []=>by simp
 | x :: l=>by
   have:=qkq a (d.push x) l
   have b:d ++ (x :: l).toArray=d.push x ++ l.toArray:=by apply Array.ext';simp
   rw [b,this,qax a,List.flatMap_cons,veo]
theorem qdl (enc:α->List Value) (k:Nat):(flatK enc k #[]).toList=[]:=by simp [flatK]
theorem qer (a:∀ x,(enc x).length=k) (d:Array α):(flatK enc k d).toList=d.toList.flatMap enc:=by
 have:=qkq a #[] d.toList
 simpa [qdl] using this
theorem qlf (c:∀ x,(enc x).length=k) (a b:Array α):(flatK enc k (a ++ b)).toList=(flatK enc k a).toList ++ (flatK enc k b).toList:=by
 have:=qkq c a b.toList
 rw [qer c b];simpa using this
theorem qaq (h:w.ownsRow base e k v d.size (flatK enc k d).toList) :
 ∃ A c,v=.slice A d.size c/\RdK enc k w.heap.size w A d/\(A=none->c=0):=by
 by_cases j:v=.slice none 0 0
 .subst j
  obtain ⟨_,⟨_,i⟩ | ⟨g,a,l,f,_⟩⟩:=h
  .exact ⟨none,0,by rw [i],fun h=>absurd i jo,fun _=>rfl⟩
  cases f
 obtain ⟨g,a,f,_,b,m⟩:=qbl h j;exact ⟨_,a,f,RdK.of_holds m b,fun h=>by cases h⟩
theorem qwv (b:∀ x,∀ u ∈ enc x,u.oneCell'=true) (c:∀ x,(enc x).length=k):∀ u ∈ (flatK enc k d).toList,u.oneCell'=true:=by
 intro u a;rw [qer c,List.mem_flatMap] at a;obtain ⟨x,_,e⟩:=a;exact b x u e
theorem qcq {P:Program} {ops:Array Oper} {rest:List Oper} {o:Oper} {a:Act} {Q:Exit->Act->World->Prop} (q:∀ x,∀ u ∈ enc x,u.oneCell'=true) (hk:∀ x,(enc x).length=k) (hk0:0 < k)
 (hgd:o.guard=none) (s x:Operand) (t:TypeId) (ho:o.op=.call { callee:=.builtin .append,args:=#[s,x],argTypes:=#[t,t] })
 (base:Nat) (e:TypeId) (i:TypeInfo) (z:Value) (bytes:Nat) (ht:P.underlying t=some (.slice e)) (hi:P.info? e=some i) (hz:i.zero=some z) (hsize:i.size=k) (hby:i.bytes=bytes) (hzs:z.cells.size=k)
 (v:Value) (d0:Array α) (hs:a.eval s=v) (hown:w.ownsRow base e k v d0.size (flatK enc k d0).toList) (B:Nat) (A:Option Addr) (c:Nat) (d:Array α) (hx:a.eval x=.slice A d.size c) (hr:RdK enc k B w A d) (hnil:A=none->c=0)
 (h63:d0.size + d.size<=100000000) (hbb:bytes<=100000) (hbase:base<=w.heap.size)
 (h:∀ m w',w'.ownsRow base e k m (d0 ++ d).size (flatK enc k (d0 ++ d)).toList->w.grownBy w' v.ownBlock->(m=.slice none 0 0->v=.slice none 0 0)->wpList P ops Q rest (a.put o.dst m) w'):wpList P ops Q (o :: rest) a w:=by
 cases A with
 | none =>
   have l:d.size=0:=by
    rcases vba d.size with l | l
    .exact l
    obtain ⟨b,y,e,_⟩:=hr l;cases e
   obtain rfl:d=#[]:=var l;rw [hnil rfl] at hx;exact wpList_append_own_none hgd s x t ho base e i k ht hi v d0.size _ hs hown hx (h v w (by simpa using hown) (World.grownBy.refl w _) id)
 | some ad =>
   refine vay _ hgd s x t ho base e i z k bytes ht hi hz hsize hby hzs hk0 v d0.size _ hs hown ad d.size c (flatK enc k d).toList hx js ?_ (qwv q hk) jl ?_ hbase fun m w' q C D=>h m w' (by rw [qlf hk,vdd];exact q) C (fun e=>(D.1 e).1)
   .intro j u n
    have f:j < d.size * k:=by
     rcases val j (d.size * k) with g | g
     .exact g
     rw [vbr (by simpa using g)] at n;cases n
    have r:0 < d.size:=by
     rcases vba d.size with g | g
     .rw [g,Nat.zero_mul] at f;omega
     exact g
    obtain ⟨b,y,p,_,E⟩:=hr r;injection p with p
    subst p;rw [Addr.add_lit,E j f];rw [qgp _ _ _ _ f] at n;rw [get_flatK _ _ _ _ f];exact n
   have:(d0.size + d.size) * bytes<=100000000 * 100000:=vew h63 hbb
   omega
theorem qba (w:World) (e:TypeId) (enc:α->List Value) (k:Nat):(w.alloc (.cells #[] e)).ownsRow w.heap.size e k (.slice (some ⟨w.heap.size,0,none⟩) (#[]:Array α).size 0) (#[]:Array α).size (flatK enc k #[]).toList:=by
 rw [qdl];exact vev w #[] 0 (vaa _) (vaj _) js
theorem qbk (w:World) (base:Nat) (e:TypeId) (enc:α->List Value) (k:Nat):w.ownsRow base e k (.slice none 0 0) (#[]:Array α).size (flatK enc k #[]).toList:=by
 rw [qdl];exact vcj w base e k
end
end Go.Proofs.YtdcfffhoajmafaaGreat
namespace Go.Proofs.YtdcfffhoajmafaaGreat
open Go.RowKit Go.Sort Go.Lib Go.Maps Go.Proofs.Tryz
section
variable {H:Type} {P:Program} {w:World}
theorem qjy {e:TypeId} (b:P.underlying e=some .bool) {v:Value} {z:DataW H×List MemPlace} (h:plainElem P e v=some z):∃ x,v=.bool x/\z=(.lit (.bool x),[]):=by
 unfold plainElem at h;rw [b] at h;split at h
 .cases h;exact ⟨_,rfl,rfl⟩
 .rename_i a;cases a
 .rename_i a;cases a
 cases h
theorem qmv {t e k:TypeId} {b n:Nat} {D:DataW H} (h:w.ownsMap P k (plainElem P e) b n D) (K:Keyed P k) (j:P.underlying t=some (.map k e)) (f:P.underlying e=some .bool) (m:(zeroValue e).run P w=.ok (.bool false) w)
 {d:Value} {i:Lit} (a:keyOf P k d=some i):∃ x,(Instr.lookup t (.map (some b)) d false).run P w=.ok (.bool x) w/\D.atKey i (.lit (.bool false))=.lit (.bool x):=by
 obtain ⟨v,o,c,l⟩:=h.lookup K j m (plainElem_bool f false) a;obtain ⟨x,rfl,g⟩:=qjy f l;simp only [Prod.mk.injEq] at g;exact ⟨x,c,g.1⟩
end
def qzz (ids:List Int):DataW Unit:=ids.foldl (fun D id=>D.put (.int .i64 id) (.lit (.bool true))) (.map [])
theorem isMap_put {D:DataW Unit} (h:IsMap D) (k:Lit) (d:DataW Unit):IsMap (D.put k d):=by
 obtain ⟨a,rfl⟩:=h;exact ⟨_,rfl⟩
theorem qsd (id:Int) (c:(Lit.int .i64 id).wf=true):∀ (a:List Int) (D:DataW Unit),IsMap D->(a.foldl (fun D id=>D.put (.int .i64 id) (.lit (.bool true))) D).atKey (.int .i64 id) (.lit (.bool false))=if a.contains id=true then .lit (.bool true) else D.atKey (.int .i64 id) (.lit (.bool false))
 | [],D,_=>by simp
 | x :: r,D,hD=>by
   rw [ves,qsd id c r _ (isMap_put hD _ _)];by_cases h:r.contains id=true
   .rw [vam h,vam (by rw [List.contains_cons,h,Bool.or_true])]
   rw [vao h];by_cases b:id=x
   .subst b
    rw [atKey_put_same hD (by first | exact c | trivial | (unfold WideAt.IsKeyLit;simp)),vam js]
   rw [atKey_put_other (by intro e;injection e with _ e;exact b e),vao];rw [List.contains_cons];simp only [vcd,not_or];exact ⟨by simpa using b,h⟩
theorem seen_at (ids:List Int) (id:Int) (a:(Lit.int .i64 id).wf=true):(qzz ids).atKey (.int .i64 id) (.lit (.bool false))=.lit (.bool (ids.contains id)):=by
 unfold qzz;rw [qsd id a ids _ ⟨[],rfl⟩];cases h:ids.contains id
 .rw [vao vex];rfl
 rw [vam rfl]
theorem seen_snoc (ids:List Int) (x:Int):qzz (ids ++ [x])=(qzz ids).put (.int .i64 x) (.lit (.bool true)):=by
 unfold qzz;rw [List.foldl_append];rfl
def qiu (now floor:Int) (d:Array (Int×Int)) (i:Nat):Bool :=
 decide (floor < d[i]!.1/\(0 < i->d[i - 1]!.1 < d[i]!.1)/\d[i]!.1<=now) && decide (10<=d[i]!.2/\d[i]!.2<=999999/\d[i]!.2 % 10≠0) && !((d.toList.take i).map Prod.snd).contains d[i]!.2
def clkB (now floor:Int) (d:Array (Int×Int)):Bool:=decide (0<=floor/\floor<=now/\now<=1000000) && (List.range d.size).all fun i=>qiu now floor d i
def clkE (now floor:Int) (d:Array (Int×Int)):Int:=if clkB now floor d=true then 0 else 2
theorem qmw {a floor:Int} {d:Array (Int×Int)}:clkB a floor d=true↔(0<=floor/\floor<=a/\a<=1000000)/\∀ i,i < d.size->qiu a floor d i=true:=by
 unfold clkB;rw [vav,vap,vcx]
 constructor
 .rintro ⟨h,g⟩;exact ⟨h,fun i b=>g i (vbv.2 b)⟩
 rintro ⟨h,g⟩;exact ⟨h,fun i b=>g i (vbv.1 b)⟩
theorem qww {a floor:Int} {d:Array (Int×Int)} (h:0<=floor/\floor<=a/\a<=1000000) (g:∀ i,i < d.size->qiu a floor d i=true):clkE a floor d=0:=by
 unfold clkE;rw [vam (qmw.2 ⟨h,g⟩)]
theorem clkE_no {a floor:Int} {d:Array (Int×Int)} (i:Nat) (hi:i < d.size) (h:qiu a floor d i=false):clkE a floor d=2:=by
 unfold clkE;rw [vao];intro b;rw [(qmw.1 b).2 i hi] at h;cases h
theorem qwx {a floor:Int} {d:Array (Int×Int)} (h:¬ (0<=floor/\floor<=a/\a<=1000000)):clkE a floor d=2:=by
 unfold clkE;rw [vao];intro b;exact h (qmw.1 b).1
def qhb (floor:Int) (d:Array (Int×Int)) (k:Nat):Int:=if k=0 then floor else d[k - 1]!.1
def idsU (d:Array (Int×Int)) (k:Nat):List Int:=(d.toList.take k).map Prod.snd
theorem idsU_succ {d:Array (Int×Int)} {k:Nat} (h:k < d.size):idsU d (k + 1)=idsU d k ++ [d[k]!.2]:=by
 unfold idsU;rw [vdb,vdn,vbl (by simpa using h)];simp [getElem!_pos d k h]
theorem qij {d:Array (Int×Int)} {k:Nat} (h:k<=d.size) {n:Int}:(idsU d k).contains n=true↔∃ j,j < k/\d[j]!.2=n:=by
 unfold idsU;rw [vct,vcp]
 constructor
 .rintro ⟨x,c,rfl⟩
  obtain ⟨j,b,e⟩:=vbt.1 c;have a:j < k/\j < d.size:=by simp at b;omega
  refine ⟨j,a.1,?_⟩;rw [vae d j a.2,<-e];simp
 rintro ⟨j,b,rfl⟩;refine ⟨d[j]!,vbt.2 ⟨j,by simp;omega,?_⟩,rfl⟩;rw [vae d j jo];simp
theorem qwy {a floor:Int} {d:Array (Int×Int)} {k:Nat} (_hk:k < d.size) (e:∀ j,j < k->qiu a floor d j=true) :
 qiu a floor d k=(decide (qhb floor d k < d[k]!.1/\d[k]!.1<=a) && decide (10<=d[k]!.2/\d[k]!.2<=999999/\d[k]!.2 % 10≠0) && !(idsU d k).contains d[k]!.2):=by
 have g:decide (floor < d[k]!.1/\(0 < k->d[k - 1]!.1 < d[k]!.1)/\d[k]!.1<=a)=decide (qhb floor d k < d[k]!.1/\d[k]!.1<=a):=by
  unfold qhb;rcases vba k with h | h
  .subst h;simp
  rw [vao jo];have f:=e (k - 1) jo;unfold qiu at f;simp only [vav,vap] at f;have i:=f.1.1.1;congr 1;apply propext
  constructor
  .rintro ⟨_,b,c⟩;exact ⟨b h,c⟩
  rintro ⟨b,c⟩;exact ⟨by omega,fun _=>b,c⟩
 show (decide _ && decide _ && !(idsU d k).contains d[k]!.2)=_;rw [g]
end Go.Proofs.YtdcfffhoajmafaaGreat
namespace Go.Proofs.YtdcfffhoajmafaaGreat
open Go.RowKit Go.Sort Go.Proofs.Tryz
def encI (x:Int):Value:=.int .i64 x
def RdI (B:Nat) (w:World) (A:Option Addr) (d:Array Int):Prop :=
 0 < d.size->∃ b off,A=some ⟨b,off,none⟩/\b < B/\∀ i,i < d.size->w.cell? ⟨b,off + i,none⟩=some (.int .i64 d[i]!)
section
variable {w w':World} {A:Option Addr} {d:Array Int} {B:Nat}
theorem RdI.below (h:RdI B w A d) (g:Below B w w'):RdI B w' A d:=fun f=>by
 obtain ⟨b,c,e,a,i⟩:=h f;exact ⟨b,c,e,a,fun t j=>(g.cell (p:=⟨b,c + t,none⟩) a).trans (i t j)⟩
theorem RdI.mono {c:Nat} (h:RdI B w A d) (j:B<=c):RdI c w A d:=fun f=>by
 obtain ⟨b,a,e,i,g⟩:=h f;exact ⟨b,a,e,by omega,g⟩
theorem RdI.next (h:RdI w.heap.size w A d) (a:Below w.heap.size w w'):RdI w'.heap.size w' A d:=(h.below a).mono a.size
theorem RdI.alloc (h:RdI B w A d) (a:B<=w.heap.size) (o:Obj):RdI B (w.alloc o) A d:=h.below ((vag _ _).alloc a o)
theorem RdI.at_ (h:RdI B w A d) {i:Nat} (hi:i < d.size):∃ b a,A=some ⟨b,a,none⟩/\b < B/\w.cell? ⟨b,a + i,none⟩=some (.int .i64 d[i]!):=by
 obtain ⟨b,a,e,c,f⟩:=h jo;exact ⟨b,a,e,c,f i hi⟩
theorem RdI.grown (h:RdI w.heap.size w A d) {g:Nat} (k:w.grownBy w' (some g)) (i:∀ a,A=some a->a.block≠g):RdI w'.heap.size w' A d:=fun l=>by
 obtain ⟨b,j,e,f,m⟩:=h l;exact ⟨b,j,e,vad f k.size,fun t n=>k.cell (m t n) (by intro c;injection c with c;exact i _ e c)⟩
theorem RdI.none_:RdI B w A #[]:=fun h=>absurd h jd
theorem RdI.new (w:World) (d:Array Int) (e:TypeId) (cs:Array Value) (h:cs=d.map encI):RdI (w.heap.size + 1) (w.alloc (.cells cs e)) (some ⟨w.heap.size,0,none⟩) d:=fun _ =>
 ⟨_,_,rfl,vcr _,fun i a=>by
  rw [qau,vcc,h,vcv,vbe a,vae _ i a];rfl⟩
end
end Go.Proofs.YtdcfffhoajmafaaGreat
namespace Go.Proofs.YtdcfffhoajmafaaGreat
open Go.RowKit Go.Sort Go.Lib Go.Proofs.Tryz
def encA (x:Int×Int):List Value:=[.int .i64 x.1,.int .i64 x.2]
theorem attGuard:prog.eqGuardType prog.depth 29 = false:=by kernel_rfl
theorem neA_run (x y:Int×Int) (w:World):(binOp .neq 29 (.agg #[.int .i64 x.1,.int .i64 x.2]) (.agg #[.int .i64 y.1,.int .i64 y.2])).run prog w=.ok (.bool (!decide (x=y))) w:=by
 have c:prog.underlying 29 = some (.struct (prog.fieldsOf 29)):=by kernel_rfl
 have d:prog.stoodInHeld 29 = false:=by kernel_rfl
 have u3:=underlying3;rw [run_neq_struct,show (10000:Nat)=9999 + 1 from rfl,veg w 9999 29 _ _ c d];simp only [Program.fieldsOf,underlying29];go_simp;obtain ⟨e,f⟩:=x;obtain ⟨g,h⟩:=y;by_cases a:e=g <;> by_cases b:f=h <;> simp [a,b]
theorem arr_ext {α:Type} [Inhabited α] {a d2:Array α} (d:a.size=d2.size) (h:∀ j,j < a.size->a[j]! = d2[j]!):a=d2 :=
 Array.ext d fun t b c=>by have:=h t b;rwa [vae a t b,vae d2 t c] at this
theorem RdK.next {α:Type} [Inhabited α] {enc:α->List Value} {k:Nat} {w w':World} {A:Option Addr} {d:Array α} (h:RdK enc k w.heap.size w A d) (a:Below w.heap.size w w'):RdK enc k w'.heap.size w' A d:=(h.below a).mono a.size
theorem EqAtts0 (v z:Option Addr) (c1 c2:Nat) (a d2:Array (Int×Int)) (D E:Nat) (w:World) (F:RdK encA 2 D w v a) (G:RdK encA 2 E w z d2) (_hn:a.size<=100000000) (O:d2.size<=100000000) :
 Calls prog 205 #[.slice v a.size c1,.slice z d2.size c2] w fun e w'=>e=.returned (.bool (decide (a=d2)))/\∃ n,w'=w.drewN n:=by
 by_cases q:a.size=d2.size
 .have H:((a.size:Int) != (d2.size:Int))=false:=by simp [q]
  have r:=hI q;have J:a.size<=d2.size:=by omega
  clear q;go_in;go_wp2
  go_loopw [13] (fun i wr=>∃ k n:Nat,k<=a.size/\i=.int .i64 k/\wr=w.drewN n/\∀ j,j < k->a[j]! = d2[j]!) (fun i _=>a.size - (intOf i).toNat)
  case atStart=>exact ⟨0,0,vaj _,rfl,rfl,fun j f=>absurd f jo⟩
  case round =>
   obtain ⟨k,n,N,rfl,rfl,f⟩:=hrel;have A:=hI f;clear f;by_cases u:k < a.size
   .obtain ⟨L,Q,rfl,_,s⟩:=F.at_ u
    obtain ⟨M,R,rfl,_,t⟩:=G.at_ (i:=k) jo;have m:=s 0 jo;have e11:=s 1 jo;have o:=t 0 jo;have e21:=t 1 jo;have c:=neA_run a[k]! d2[k]!;have I:=attGuard;generalize B:a[k]! = x at m e11 c;generalize C:d2[k]! = y at o e21 c;have g:=hI B;clear B;have l:=hI C;clear C;simp only [vak,encA,vac,vaf] at m e11 o e21;clear s t;have P:(k:Int) < (a.size:Int):=by omega
    have K:(k:Int) < (d2.size:Int):=by omega
    by_cases b:x=y
    .skip
     have p:decide (x=y)=true:=by simp [b]
     have d:=hI b;clear b;rw [p] at c;clear p;go_wp2;go_quiet (fail);go_wp2;go_roundw
     case rel=>exact ⟨k + 1,_,by omega,by go_num,rfl,fun j f=>by
      rcases val j k with h | h
      .exact A.out j h
      obtain rfl:j=k:=by omega
      rw [g.out,l.out];exact d.out⟩
     case measure=>simp [intOf];omega
    skip
    have p:decide (x=y)=false:=by simp [b]
    have d:=hI b;clear b;rw [p] at c;clear p;go_wp2;go_quiet (fail);go_wp2;go_ret;exact ⟨qad (by symm;rw [vat];rintro rfl;exact d.out (by rw [<-g.out,<-l.out])),_,vcs _ _ _⟩
   go_wp2;go_ret;exact ⟨qad (by symm;rw [vbj];exact arr_ext r.out fun j f=>A.out j jo),n,rfl⟩
 have H:((a.size:Int) != (d2.size:Int))=true:=by simp;omega
 have r:=hI q;clear q;go_in;go_wp2;go_ret;exact ⟨qad (by symm;rw [vat];rintro rfl;exact r.out rfl),0,rfl⟩
theorem qkr (b c:Option Addr) (c1 c2:Nat) (a d2:Array (Int×Int)) (d f:Nat) (w:World) (g:RdK encA 2 d w b a) (h:RdK encA 2 f w c d2) (k:a.size<=100000000) (j:d2.size<=100000000) :
 Calls prog 205 #[.slice b a.size c1,.slice c d2.size c2] w fun e w'=>e=.returned (.bool (decide (a=d2)))/\Below w.heap.size w w' :=
 (EqAtts0 b c c1 c2 a d2 d f w g h k j).mono fun _ _ ⟨i,n,l⟩=>⟨i,by rw [l];exact qaj (vag _ _) n⟩
theorem EqInts0 (r s:Option Addr) (c1 c2:Nat) (a d2:Array Int) (z A:Nat) (w:World) (B:RdI z w r a) (C:RdI A w s d2) (_hn:a.size<=100000000) (K:d2.size<=100000000) :
 Calls prog 206 #[.slice r a.size c1,.slice s d2.size c2] w fun e w'=>e=.returned (.bool (decide (a=d2)))/\∃ n,w'=w.drewN n:=by
 by_cases l:a.size=d2.size
 .have D:((a.size:Int) != (d2.size:Int))=false:=by simp [l]
  have m:=hI l;have F:a.size<=d2.size:=by omega
  clear l;go_in;go_wp2
  go_loopw [13] (fun i wr=>∃ k n:Nat,k<=a.size/\i=.int .i64 k/\wr=w.drewN n/\∀ j,j < k->a[j]! = d2[j]!) (fun i _=>a.size - (intOf i).toNat)
  case atStart=>exact ⟨0,0,vaj _,rfl,rfl,fun j d=>absurd d jo⟩
  case round =>
   obtain ⟨k,n,J,rfl,rfl,d⟩:=hrel;have t:=hI d;clear d;by_cases q:k < a.size
   .obtain ⟨H,M,rfl,_,o⟩:=B.at_ q
    obtain ⟨I,N,rfl,_,p⟩:=C.at_ (i:=k) jo;generalize u:a[k]! = x at o;generalize v:d2[k]! = y at p;have f:=hI u;clear u;have g:=hI v;clear v;have L:(k:Int) < (a.size:Int):=by omega
    have G:(k:Int) < (d2.size:Int):=by omega
    by_cases b:x=y
    .skip
     have E:(x != y)=false:=by simp [b]
     have c:=hI b;clear b;go_wp2;go_quiet (fail);go_wp2;go_roundw
     case rel=>exact ⟨k + 1,_,by omega,by go_num,rfl,fun j d=>by
      rcases val j k with h | h
      .exact t.out j h
      obtain rfl:j=k:=by omega
      rw [f.out,g.out];exact c.out⟩
     case measure=>simp [intOf];omega
    skip
    have E:(x != y)=true:=by simp [b]
    have c:=hI b;clear b;go_wp2;go_quiet (fail);go_wp2;go_ret;exact ⟨qad (by symm;rw [vat];rintro rfl;exact c.out (by rw [<-f.out,<-g.out])),_,vcs _ _ _⟩
   go_wp2;go_ret;exact ⟨qad (by symm;rw [vbj];exact arr_ext m.out fun j d=>t.out j jo),n,rfl⟩
 have D:((a.size:Int) != (d2.size:Int))=true:=by simp;omega
 have m:=hI l;clear l;go_in;go_wp2;go_ret;exact ⟨qad (by symm;rw [vat];rintro rfl;exact m.out rfl),0,rfl⟩
theorem qhy (b c:Option Addr) (c1 c2:Nat) (a d2:Array Int) (d f:Nat) (w:World) (g:RdI d w b a) (h:RdI f w c d2) (k:a.size<=100000000) (j:d2.size<=100000000) :
 Calls prog 206 #[.slice b a.size c1,.slice c d2.size c2] w fun e w'=>e=.returned (.bool (decide (a=d2)))/\Below w.heap.size w w' :=
 (EqInts0 b c c1 c2 a d2 d f w g h k j).mono fun _ _ ⟨i,n,l⟩=>⟨i,by rw [l];exact qaj (vag _ _) n⟩
structure PM where
 k:Int
 fr:Int
 id:Int
 t:Int
 bal:Int
 abal:Int
 ph:Int
 q:Int
 pay:ByteArray
 lo:Int
 hi:Int
 aA:Option Addr
 aC:Nat
 ats:Array (Int×Int)
 mA:Option Addr
 mC:Nat
 mks:Array Int
 dn:Int
def msgV (m:PM):Value:=.agg #[.int .i64 m.k,.int .i64 m.fr,.int .i64 m.id,.int .i64 m.t,.int .i64 m.bal,.int .i64 m.abal,.int .i64 m.ph,.int .i64 m.q,.string m.pay,.int .i64 m.lo,.int .i64 m.hi,.slice m.aA m.ats.size m.aC,.slice m.mA m.mks.size m.mC,.int .i64 m.dn]
def msgC (m:PM):Array Value:=#[.int .i64 m.k,.int .i64 m.fr,.int .i64 m.id,.int .i64 m.t,.int .i64 m.bal,.int .i64 m.abal,.int .i64 m.ph,.int .i64 m.q,.string m.pay,.int .i64 m.lo,.int .i64 m.hi,.slice m.aA m.ats.size m.aC,.slice m.mA m.mks.size m.mC,.int .i64 m.dn]
structure RdM (w:World) (m:PM):Prop where
 ra:RdK encA 2 w.heap.size w m.aA m.ats
 rm:RdI w.heap.size w m.mA m.mks
 sa:m.ats.size<=1000000
 sm:m.mks.size<=1000000
 sp:m.pay.size<=1000000
theorem RdM.next {w w':World} {m:PM} (h:RdM w m) (a:Below w.heap.size w w'):RdM w' m:=⟨h.ra.next a,h.rm.next a,h.sa,h.sm,h.sp⟩
def qcz (a b:PM):Bool:=decide (a.k=b.k/\a.fr=b.fr/\a.id=b.id/\a.t=b.t/\a.bal=b.bal/\a.abal=b.abal/\a.ph=b.ph/\a.q=b.q/\a.pay=b.pay/\a.lo=b.lo/\a.hi=b.hi/\a.dn=b.dn/\a.ats=b.ats/\a.mks=b.mks)
theorem qwz {a b:ByteArray}:(a.toList == b.toList)=decide (a=b):=by
 by_cases h:a=b
 .subst h;simp
 have:a.toList≠b.toList:=fun e=>h (by
  rw [vdj,vdj] at e
  exact ByteArray.ext (Array.ext' e))
 simp [h,this]
theorem Same_1 (a b:PM) (w:World) (m:RdM w a) (n:RdM w b) (j:a.pay=b.pay) (c:a.ats=b.ats) (i:a.mks=b.mks) :
 Calls prog 140 #[msgV a,msgV b] w fun e w'=>e=.returned (.bool (qcz a b))/\Below w.heap.size w w':=by
 have u:=hI (fun W (h:Below w.heap.size w W)=>qkr a.aA b.aA a.aC b.aC a.ats b.ats _ _ W (m.next h).ra (n.next h).ra (jg m.sa) (jg n.sa));have v:=hI (fun W (h:Below w.heap.size w W)=>qhy a.mA b.mA a.mC b.mC a.mks b.mks _ _ W (m.next h).rm (n.next h).rm (jg m.sm) (jg n.sm));unfold msgV;have t:=@qwz a.pay b.pay;have g:decide (a.pay=b.pay)=true:=by simp [j]
 have d:decide (a.ats=b.ats)=true:=by simp [c]
 have f:decide (a.mks=b.mks)=true:=by simp [i]
 rw [g] at t;rw [d] at u;rw [f] at v;have x:Hid (qcz a b=decide (a.k=b.k/\a.fr=b.fr/\a.id=b.id/\a.t=b.t/\a.bal=b.bal/\a.abal=b.abal/\a.ph=b.ph/\a.q=b.q/\a.lo=b.lo/\a.hi=b.hi/\a.dn=b.dn)):=by show _=_;unfold qcz;simp [j,c,i]
 clear j g c d i f m n;go_in;go_wp2_with (first | (go_at_call 205;refine (u.out _ (qab (bel1 w _) _)).mono ?_;rintro e y ⟨rfl,k⟩;have I:y.cell? ⟨w.heap.size,12,none⟩=some (.slice a.mA a.mks.size a.mC):=(k.cell (p:=⟨w.heap.size,12,none⟩) jso).trans js;have J:y.cell? ⟨w.heap.size + 1,12,none⟩=some (.slice b.mA b.mks.size b.mC):=(k.cell (p:=⟨w.heap.size + 1,12,none⟩) js).trans js;have l:=hI (qaa (qab (bel1 w _) _) k);clear k) | (go_at_call 206;refine (v.out _ l.out).mono ?_;rintro e K ⟨rfl,o⟩;have q:=hI (qaa l.out o);clear o))
 all_goals go_ret
 all_goals first
  | exact ⟨qad (by rw [x.out];symm;rw [vbj];exact ⟨by assumption,by assumption,by assumption,by assumption,by assumption,by assumption,by assumption,by assumption,by assumption,by assumption,by assumption⟩),q.out⟩
  | exact ⟨qad (by rw [x.out];symm;rw [vat];rintro ⟨z,A,B,C,D,E,F,G,H,r,s⟩;first | exact absurd z jN | exact absurd A jN | exact absurd B jN | exact absurd C jN | exact absurd D jN | exact absurd E jN | exact absurd F jN | exact absurd G jN | exact absurd H jN | exact absurd r jN | exact absurd s jN),qab (bel1 w _) _⟩
theorem Same_2 (a b:PM) (w:World) (m:RdM w a) (n:RdM w b) (k:a.pay=b.pay) (j:a.ats=b.ats) (g:¬ a.mks=b.mks) :
 Calls prog 140 #[msgV a,msgV b] w fun e w'=>e=.returned (.bool (qcz a b))/\Below w.heap.size w w':=by
 have s:=hI (fun W (h:Below w.heap.size w W)=>qkr a.aA b.aA a.aC b.aC a.ats b.ats _ _ W (m.next h).ra (n.next h).ra (jg m.sa) (jg n.sa));have t:=hI (fun W (h:Below w.heap.size w W)=>qhy a.mA b.mA a.mC b.mC a.mks b.mks _ _ W (m.next h).rm (n.next h).rm (jg m.sm) (jg n.sm));unfold msgV;have r:=@qwz a.pay b.pay;have f:decide (a.pay=b.pay)=true:=by simp [k]
 have c:decide (a.ats=b.ats)=true:=by simp [j]
 have d:decide (a.mks=b.mks)=false:=by simp [g]
 rw [f] at r;rw [c] at s;rw [d] at t;have v:Hid (qcz a b=false):=by show _=_;unfold qcz;simp [g]
 rw [v.out];clear k f j c g d m n;go_in;go_wp2_with (first | (go_at_call 205;refine (s.out _ (qab (bel1 w _) _)).mono ?_;rintro e u ⟨rfl,i⟩;have x:u.cell? ⟨w.heap.size,12,none⟩=some (.slice a.mA a.mks.size a.mC):=(i.cell (p:=⟨w.heap.size,12,none⟩) jso).trans js;have y:u.cell? ⟨w.heap.size + 1,12,none⟩=some (.slice b.mA b.mks.size b.mC):=(i.cell (p:=⟨w.heap.size + 1,12,none⟩) js).trans js;have l:=hI (qaa (qab (bel1 w _) _) i);clear i) | (go_at_call 206;refine (t.out _ l.out).mono ?_;rintro e z ⟨rfl,o⟩;have q:=hI (qaa l.out o);clear o))
 all_goals go_ret
 all_goals first
  | exact ⟨rfl,q.out⟩
  | exact ⟨rfl,qab (bel1 w _) _⟩
theorem Same_3 (a b:PM) (w:World) (j:RdM w a) (k:RdM w b) (i:a.pay=b.pay) (c:¬ a.ats=b.ats) :
 Calls prog 140 #[msgV a,msgV b] w fun e w'=>e=.returned (.bool (qcz a b))/\Below w.heap.size w w':=by
 have n:=hI (fun W (h:Below w.heap.size w W)=>qkr a.aA b.aA a.aC b.aC a.ats b.ats _ _ W (j.next h).ra (k.next h).ra (jg j.sa) (jg k.sa));have q:=hI (fun W (h:Below w.heap.size w W)=>qhy a.mA b.mA a.mC b.mC a.mks b.mks _ _ W (j.next h).rm (k.next h).rm (jg j.sm) (jg k.sm));unfold msgV;have m:=@qwz a.pay b.pay;have f:decide (a.pay=b.pay)=true:=by simp [i]
 have d:decide (a.ats=b.ats)=false:=by simp [c]
 rw [f] at m;rw [d] at n;have r:Hid (qcz a b=false):=by show _=_;unfold qcz;simp [c]
 rw [r.out];clear i f c d j k q;go_in;go_wp2_with (go_at_call 205;refine (n.out _ (qab (bel1 w _) _)).mono ?_;rintro e o ⟨rfl,g⟩;have s:o.cell? ⟨w.heap.size,12,none⟩=some (.slice a.mA a.mks.size a.mC):=(g.cell (p:=⟨w.heap.size,12,none⟩) jso).trans js;have t:o.cell? ⟨w.heap.size + 1,12,none⟩=some (.slice b.mA b.mks.size b.mC):=(g.cell (p:=⟨w.heap.size + 1,12,none⟩) js).trans js;have l:=hI (qaa (qab (bel1 w _) _) g);clear g)
 all_goals go_ret
 all_goals first
  | exact ⟨rfl,l.out⟩
  | exact ⟨rfl,qab (bel1 w _) _⟩
theorem Same_4 (a b:PM) (w:World) (d:¬ a.pay=b.pay) :
 Calls prog 140 #[msgV a,msgV b] w fun e w'=>e=.returned (.bool (qcz a b))/\Below w.heap.size w w':=by
 unfold msgV;have f:=@qwz a.pay b.pay;have c:decide (a.pay=b.pay)=false:=by simp [d]
 rw [c] at f;have g:Hid (qcz a b=false):=by show _=_;unfold qcz;simp [d]
 rw [g.out];clear d c;go_in;go_wp2
 all_goals go_ret
 all_goals exact ⟨rfl,qab (bel1 w _) _⟩
theorem Same_any (a b:PM) (w:World) (g:RdM w a) (h:RdM w b) :
 Calls prog 140 #[msgV a,msgV b] w fun e w'=>e=.returned (.bool (qcz a b))/\Below w.heap.size w w':=by
 by_cases f:a.pay=b.pay
 .by_cases c:a.ats=b.ats
  .by_cases d:a.mks=b.mks
   .exact Same_1 a b w g h f c d
   exact Same_2 a b w g h f c d
  exact Same_3 a b w g h f c
 exact Same_4 a b w f
def qiz (m:PM):Bool:=decide (m.pay.size<=1000) && decide (m.ats.size<=300) && decide (m.mks.size<=100)
theorem fewM_rd {w:World} {m:PM} (h:qiz m=true) (a:RdK encA 2 w.heap.size w m.aA m.ats) (b:RdI w.heap.size w m.mA m.mks):RdM w m:=by
 unfold qiz at h;simp only [vav,vap] at h;exact ⟨a,b,by omega,by omega,by omega⟩
theorem Few_any (m:PM) (w:World) :
 Calls prog 7 #[msgV m] w fun e w'=>e=.returned (.bool (qiz m))/\Below w.heap.size w w':=by
 have a:Hid (qiz m=(decide (m.pay.size<=1000) && decide (m.ats.size<=300) && decide (m.mks.size<=100))):=rfl;unfold msgV;by_cases c:m.pay.size<=1000
 .have g:decide ((m.pay.size:Int)<=1000)=true:=by simp;omega
  by_cases d:m.ats.size<=300
  .have h:decide ((m.ats.size:Int)<=300)=true:=by simp;omega
   by_cases f:m.mks.size<=100
   .have i:decide ((m.mks.size:Int)<=100)=true:=by simp;omega
    have b:Hid (qiz m=true):=by show _=_;rw [a.out];simp [c,d,f]
    clear a c d f;go_in;go_wp2;go_ret;exact ⟨by rw [b.out];rfl,bel1 w _⟩
   have i:decide ((m.mks.size:Int)<=100)=false:=by simp;omega
   have b:Hid (qiz m=false):=by show _=_;rw [a.out];simp [f]
   clear a c d f;go_in;go_wp2;go_ret;exact ⟨by rw [b.out];rfl,bel1 w _⟩
  have h:decide ((m.ats.size:Int)<=300)=false:=by simp;omega
  have b:Hid (qiz m=false):=by show _=_;rw [a.out];simp [d]
  clear a c d;go_in;go_wp2;go_ret;exact ⟨by rw [b.out];rfl,bel1 w _⟩
 have g:decide ((m.pay.size:Int)<=1000)=false:=by simp;omega
 have b:Hid (qiz m=false):=by show _=_;rw [a.out];simp [c]
 clear a c;go_in;go_wp2;go_ret;exact ⟨by rw [b.out];rfl,bel1 w _⟩
end Go.Proofs.YtdcfffhoajmafaaGreat
