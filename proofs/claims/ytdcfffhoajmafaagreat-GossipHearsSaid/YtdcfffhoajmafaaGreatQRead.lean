/- Texts that the law leans on. -/
import Derived.Shelf.GgSortFunc.RowK
import Derived.Test.YtdcfffhoajmafaaGreatQBase
set_option maxRecDepth 100000
set_option maxHeartbeats 4000000
namespace Go.Proofs.YtdcfffhoajmafaaGreat
open Go.RowKit Go.Sort Go.Proofs.Tryz
section
variable {α:Type} [Inhabited α] {enc:α->List Value} {k:Nat} {w w':World} {A:Option Addr} {d:Array α} {B:Nat}
def RdK (enc:α->List Value) (k:Nat) (B:Nat) (w:World) (A:Option Addr) (d:Array α):Prop :=
 0 < d.size->∃ b off,A=some ⟨b,off,none⟩/\b < B/\∀ t,t < d.size * k->w.cell? ⟨b,off + t,none⟩=some (flatK enc k d)[t]!
theorem RdK.below (h:RdK enc k B w A d) (g:Below B w w'):RdK enc k B w' A d:=fun f=>by
 obtain ⟨b,c,e,a,i⟩:=h f;exact ⟨b,c,e,a,fun t j=>(g.cell (p:=⟨b,c + t,none⟩) a).trans (i t j)⟩
theorem RdK.mono {c:Nat} (h:RdK enc k B w A d) (j:B<=c):RdK enc k c w A d:=fun f=>by
 obtain ⟨b,a,e,i,g⟩:=h f;exact ⟨b,a,e,by omega,g⟩
theorem RdK.alloc (h:RdK enc k B w A d) (a:B<=w.heap.size) (o:Obj):RdK enc k B (w.alloc o) A d:=h.below ((vag _ _).alloc a o)
theorem qfw (enc:α->List Value) (k:Nat) (d:Array α) (i c:Nat) (hi:i < d.size) (f:c < k):(flatK enc k d)[i * k + c]! = (enc d[i]!)[c]!:=by
 have e:i * k + c < d.size * k:=by
  have:=vce k (show i + 1<=d.size from hi);rw [Nat.add_mul,Nat.one_mul] at this;omega
 have a:(i * k + c) / k=i:=(blk_iff k i _ jo).1 ⟨by omega,by omega⟩;have b:(i * k + c) % k=c:=by rw [Nat.mod_eq_sub_div_mul,a];omega
 rw [get_flatK _ _ _ _ e,a,b]
theorem quy {i c n k:Nat} (hi:i < n) (a:c < k):i * k + c < n * k:=by
 have:=vce k (show i + 1<=n from hi);rw [Nat.add_mul,Nat.one_mul] at this;omega
theorem RdK.at_ (h:RdK enc k B w A d) {i:Nat} (hi:i < d.size):∃ b a,A=some ⟨b,a,none⟩/\b < B/\∀ c,c < k->w.cell? ⟨b,a + i * k + c,none⟩=some (enc d[i]!)[c]!:=by
 obtain ⟨b,a,e,g,j⟩:=h jo;exact ⟨b,a,e,g,fun c f=>by rw [vdl,j _ (quy hi f),qfw _ _ _ _ _ hi f]⟩
theorem RdK.of_holds {b off:Nat} (h:HoldsK enc k w b off d) (a:b < B):RdK enc k B w (some ⟨b,off,none⟩) d:=fun _ =>
 ⟨b,off,rfl,a,fun t c=>(h t (by rw [size_flatK];exact c)).1⟩
theorem qbl {a:Nat} {e:TypeId} {v:Value} (h:w.ownsRow a e k v d.size (flatK enc k d).toList) (s:v≠.slice none 0 0) :
 ∃ g b,v=.slice (some ⟨g,0,none⟩) d.size b/\a<=g/\g < w.heap.size/\HoldsK enc k w g 0 d:=by
 obtain ⟨_,⟨p,_⟩ | ⟨g,b,f,x,q,c,u,r,n,l⟩⟩:=h
 .exact absurd p s
 have i:g < w.heap.size:=by
  rcases val g w.heap.size with h | h
  .exact h
  rw [vbn h] at c;cases c
 refine ⟨g,b,x,q,i,fun t j=>?_⟩;rw [size_flatK] at j;have m:f.toList[t]?=(flatK enc k d).toList[t]?:=by rw [<-l,vff j]
 have o:(flatK enc k d).toList[t]?=some (flatK enc k d)[t]!:=by
  have:t < (flatK enc k d).size:=by rw [size_flatK];exact j
  rw [vbh,vbe this,vae _ t this]
 rw [o,vbh] at m;exact ⟨by simp [World.cell?,c,m],by simp [World.frozen?,c]⟩
theorem qau (w:World) (cs:Array Value) (e:TypeId) (t:Nat):(w.alloc (.cells cs e)).cell? ⟨w.heap.size,t,none⟩=cs[t]?:=by
 have:(w.alloc (.cells cs e)).heap[w.heap.size]?=some (.cells cs e (0,0)):=by show (w.heap.push _)[w.heap.size]?=_;simp
 unfold World.cell?;simp only [this];rfl
theorem new_cells (w:World) (enc:α->List Value) (k:Nat) (d:Array α) (e:TypeId) (cs:Array Value) (h:cs=flatK enc k d) (t:Nat) (b:t < d.size * k):(w.alloc (.cells cs e)).cell? ⟨w.heap.size,0 + t,none⟩=some (flatK enc k d)[t]!:=by
 have a:t < (flatK enc k d).size:=by rw [size_flatK];exact b
 rw [qau,vcc,h,vbe a,vae _ t a]
theorem RdK.new (w:World) (enc:α->List Value) (k:Nat) (d:Array α) (e:TypeId) (cs:Array Value) (h:cs=flatK enc k d):RdK enc k (w.heap.size + 1) (w.alloc (.cells cs e)) (some ⟨w.heap.size,0,none⟩) d:=fun _ =>
 ⟨_,_,rfl,vcr _,fun t a=>new_cells w enc k d e cs h t a⟩
end
end Go.Proofs.YtdcfffhoajmafaaGreat
namespace Go.Proofs.YtdcfffhoajmafaaGreat
open Go.RowKit Go.Sort Go.Lib Go.Proofs.Tryz
structure AK where
 kind:Int
 frm:Int
 bal:Int
 t:Int
 abal:Int
 ph:Int
instance:Inhabited AK:=⟨⟨0,0,0,0,0,0⟩⟩
def encK (a:AK):List Value:=[.int .i64 a.kind,.int .i64 a.frm,.int .i64 a.bal,.int .i64 a.t,.int .i64 a.abal,.int .i64 a.ph]
theorem encK_len (x:AK):(encK x).length=6:=rfl
structure EN where
 id:Int
 ph:Int
 qu:Int
 t:Int
 bal:Int
 abal:Int
 seen:Int
 age:Int
 pay:ByteArray
 A:Option Addr
 c:Nat
 z:Array AK
instance:Inhabited EN:=⟨⟨0,0,0,0,0,0,0,0,ByteArray.empty,none,0,#[]⟩⟩
def encE (e:EN):List Value:=[.int .i64 e.id,.int .i64 e.ph,.int .i64 e.qu,.int .i64 e.t,.int .i64 e.bal,.int .i64 e.abal,.int .i64 e.seen,.int .i64 e.age,.string e.pay,.slice e.A e.z.size e.c]
theorem qio (x:EN):(encE x).length=10:=rfl
theorem encE_1 (x:EN):∀ u ∈ encE x,u.oneCell'=true:=by intro u a;simp [encE] at a;rcases a with rfl | rfl | rfl | rfl | rfl | rfl | rfl | rfl | rfl | rfl <;> rfl
structure RdE0 (w:World) (e:EN):Prop where
 rd:RdK encK 6 w.heap.size w e.A e.z
 cz:e.z.size<=e.c
theorem RdE0.below {w w':World} {e:EN} (h:RdE0 w e) (a:Below w.heap.size w w'):RdE0 w' e:=⟨(h.rd.below a).mono a.size,h.cz⟩
structure RdE (w:World) (e:EN):Prop where
 rd:RdK encK 6 w.heap.size w e.A e.z
 cz:e.z.size<=e.c
 sz:e.z.size<=1000
 pz:e.pay.size<=1000
theorem RdE.below {w w':World} {e:EN} (h:RdE w e) (a:Below w.heap.size w w'):RdE w' e:=⟨(h.rd.below a).mono a.size,h.cz,h.sz,h.pz⟩
theorem RdE0.few {w:World} {e:EN} (h:RdE0 w e) (b:e.z.size<=100) (a:e.pay.size<=1000):RdE w e:=⟨h.rd,h.cz,by omega,a⟩
theorem RdE0.fewW {w:World} {e:EN} (h:RdE0 w e) (b:e.z.size<=1000) (a:e.pay.size<=1000):RdE w e:=⟨h.rd,h.cz,b,a⟩
def qna (p:Int):Bool:=decide (1<=p/\p<=4)
def qkb (p:Int):Bool:=decide (p=5\/p=6)
def propB (p:Int):Bool:=decide (2<=p/\p<=4)
def withB (n top:Int):Bool:=decide (0<=n/\n<=top)
def ackB (a:AK):Bool:=decide (1<=a.kind/\a.kind<=3/\1<=a.frm/\a.frm<=9/\0<=a.t/\a.t<=1000000/\0<=a.bal/\a.bal<=1000000/\0<=a.abal/\a.abal<=1000000/\0<=a.ph/\a.ph<=6)
theorem qff {p:Prop} [Decidable p] {b:Bool} (h:b=true↔p):Ending.returned (.bool b)=.returned (.bool (decide p)):=by
 rw [show b=decide p by cases b <;> simp_all]
theorem qku (p:Int) (w:World):Calls prog 61 #[.int .i64 p] w fun e w'=>e=.returned (.bool (qna p))/\w'=w:=by
 go_in;go_wp2
 all_goals
  go_ret;exact ⟨qff (by simp <;> omega),rfl⟩
theorem qip (p:Int) (w:World):Calls prog 144 #[.int .i64 p] w fun e w'=>e=.returned (.bool (qkb p))/\w'=w:=by
 go_in;go_wp2
 all_goals
  go_ret;exact ⟨qff (by simp <;> omega),rfl⟩
theorem zae (p:Int) (w:World):Calls prog 269 #[.int .i64 p] w fun e w'=>e=.returned (.bool (propB p))/\w'=w:=by
 go_in;go_wp2
 all_goals
  go_ret;exact ⟨qff (by simp <;> omega),rfl⟩
def phE (p:Int):Int:=if 0<=p/\p<=6 then 0 else 2
theorem phE_eq (p:Int):(phE p == 0)=decide (0<=p/\p<=6):=by
 unfold phE;by_cases h:0<=p/\p<=6
 .rw [vam h];simp [h]
 rw [vao h];simp;omega
theorem phChk_any (p:Int) (w:World):Calls prog 249 #[.int .i64 p] w fun e w'=>e=.returned (.int .i64 (phE p))/\w'=w:=by
 go_in;go_wp2
 all_goals
  go_ret;refine ⟨qag ?_,rfl⟩;unfold phE
  first | (rw [vam jo]) | (rw [vao jo])
theorem qpb (n a:Int) (w:World):Calls prog 248 #[.int .i64 n,.int .i64 a] w fun e w'=>e=.returned (.bool (withB n a))/\w'=w:=by
 go_in;go_wp2
 all_goals
  go_ret;exact ⟨qff (by simp <;> omega),rfl⟩
theorem zaf (a:AK) (w:World):Calls prog 200 #[.agg (encK a).toArray] w fun e w'=>e=.returned (.bool (ackB a))/\Below w.heap.size w w':=by
 have c:Below w.heap.size w (w.alloc (.cells (encK a).toArray 176)):=bel1 w _;have f:=hI (phE_eq a.ph);obtain ⟨d,h,g,t,b,i⟩:=a;simp only [encK] at c |-
 go_in;go_wp2_with (first | (go_at_call 248;refine (qpb _ _ _).mono ?_;rintro e w' ⟨rfl,rfl⟩) | (go_at_call 249;refine (phChk_any _ _).mono ?_;rintro e w' ⟨rfl,rfl⟩))
 all_goals
  go_ret;refine ⟨qff ?_,c⟩
  try rw [f.out]
  simp only [withB,vap,vat,vey,false_iff] at *;omega
theorem rAck_any (a:AK) (w:World):Calls prog 232 #[.agg (encK a).toArray] w fun e w'=>e=.returned (.bool (ackB a))/\Below w.heap.size w w':=by
 have c:Below w.heap.size w (w.alloc (.cells (encK a).toArray 176)):=bel1 w _;obtain ⟨d,g,f,t,b,h⟩:=a;simp only [encK] at c |-
 go_in;go_wp2
 all_goals
  go_ret;refine ⟨qff ?_,c⟩;simp only [vap,vey,false_iff] at *;omega
structure RW (α:Type) where
 A:Option Addr
 c:Nat
 z:Array α
instance {α:Type}:Inhabited (RW α):=⟨⟨none,0,#[]⟩⟩
def RW.v {α:Type} (x:RW α):Value:=.slice x.A x.z.size x.c
def encW {α:Type} (x:RW α):List Value:=[x.v]
theorem qql {α:Type} (x:RW α):(encW x).length=1:=rfl
structure KE where
 base:Int
 r:RW (Int×Int)
 a:RW (Int×Int)
instance:Inhabited KE:=⟨⟨0,default,default⟩⟩
def qav (k:KE):List Value:=[.int .i64 k.base,.slice k.r.A k.r.z.size k.r.c,.slice k.a.A k.a.z.size k.a.c]
theorem qic (x:KE):(qav x).length=3:=rfl
theorem quz (x:KE):∀ u ∈ qav x,u.oneCell'=true:=by intro u a;simp [qav] at a;rcases a with rfl | rfl | rfl <;> rfl
structure IT where
 id:Int
 free:Int
 held:Int
 gone:Int
instance:Inhabited IT:=⟨⟨0,0,0,0⟩⟩
def encIT (a:IT):List Value:=[.int .i64 a.id,.int .i64 a.free,.int .i64 a.held,.int .i64 a.gone]
theorem encIT_len (x:IT):(encIT x).length=4:=rfl
structure SS where
 cl:Int
 seq:Int
 rep:ByteArray
instance:Inhabited SS:=⟨⟨0,0,ByteArray.empty⟩⟩
def encSS (a:SS):List Value:=[.int .i64 a.cl,.int .i64 a.seq,.string a.rep]
theorem encSS_len (x:SS):(encSS x).length=3:=rfl
structure RP where
 n:Int
 f:Int
 self:Int
 clock:Int
 seq:Int
 floor:Int
 ticks:Int
 e:RW EN
 o:RW (Int×Int)
 k:RW KE
 m:RW (RW Int)
 fr:RW Int
 d:RW (RW (Int×Int))
 lt:Int
 lid:Int
 count:Int
 it:RW IT
 ss:RW SS
instance:Inhabited RP:=⟨⟨0,0,0,0,0,0,0,default,default,default,default,default,default,0,0,0,default,default⟩⟩
def encP (r:RP):List Value:=[.int .i64 r.n,.int .i64 r.f,.int .i64 r.self,.int .i64 r.clock,.int .i64 r.seq,.int .i64 r.floor,.int .i64 r.ticks,
 .slice r.e.A r.e.z.size r.e.c,.slice r.o.A r.o.z.size r.o.c,.slice r.k.A r.k.z.size r.k.c,.slice r.m.A r.m.z.size r.m.c,.slice r.fr.A r.fr.z.size r.fr.c,.slice r.d.A r.d.z.size r.d.c,
 .int .i64 r.lt,.int .i64 r.lid,.int .i64 r.count,.slice r.it.A r.it.z.size r.it.c,.slice r.ss.A r.ss.z.size r.ss.c]
def qB (b a:AK):Bool:=decide (b.kind=a.kind/\b.frm=a.frm/\b.bal=a.bal)
def hadN (z:Array AK) (n:Nat) (a:AK):Bool:=(List.range n).any fun j=>qB z[j]! a
theorem qxk {z:Array AK} {n:Nat} {a:AK} (j:Nat) (b:j < n) (h:qB z[j]! a=true):hadN z n a=true:=by
 unfold hadN;rw [vca];exact ⟨j,vbv.2 b,h⟩
theorem hadN_no {z:Array AK} {n:Nat} {a:AK} (h:∀ j,j < n->qB z[j]! a=false):hadN z n a=false:=by
 unfold hadN;rw [vdu];intro j b;rw [h j (vbv.1 b)];exact vex
theorem of_any (a:AK) (w:World):Calls prog 198 #[.agg (encK a).toArray] w fun e w'=>e=.returned (.agg #[.int .i64 a.kind,.int .i64 a.frm,.int .i64 a.bal])/\Below w.heap.size w w':=by
 have c:∀ o,Below w.heap.size w ((w.alloc (.cells (encK a).toArray 176)).alloc o):=fun o=>qab (bel1 w _) o
 obtain ⟨d,g,f,t,b,i⟩:=a;simp only [encK] at c |-
 go_in;go_wp2;have h:prog.underlying 224 = some (.struct (prog.fieldsOf 224)):=by kernel_rfl
 refine vau (results_cell_row rfl _ _ (w.heap.size + 1) 224 _ (0,0) _ rfl (veh w _ _) h rfl jk) rfl ?_;exact ⟨rfl,c _⟩
theorem eqQ_run (x y:AK) (w:World):(binOp .eql 224 (.agg #[.int .i64 x.kind,.int .i64 x.frm,.int .i64 x.bal]) (.agg #[.int .i64 y.kind,.int .i64 y.frm,.int .i64 y.bal])).run prog w=.ok (.bool (qB x y)) w:=by
 have d:prog.underlying 224 = some (.struct (prog.fieldsOf 224)):=by kernel_rfl
 have e:prog.stoodInHeld 224 = false:=by kernel_rfl
 have u3:=underlying3;rw [run_eql_struct,show (10000:Nat)=9999 + 1 from rfl,veg w 9999 224 _ _ d e];simp only [Program.fieldsOf,underlying224];go_simp;unfold qB;by_cases a:x.kind=y.kind <;> by_cases b:x.frm=y.frm <;> by_cases c:x.bal=y.bal <;> simp [a,b,c]
theorem is_any (q a:AK) (w:World):Calls prog 199 #[.agg #[.int .i64 q.kind,.int .i64 q.frm,.int .i64 q.bal],.agg (encK a).toArray] w fun e w'=>e=.returned (.bool (qB a q))/\Below w.heap.size w w':=by
 have x:=hI (fun W=>of_any a W);have n:=eqQ_run a q;generalize qB a q=r at n;obtain ⟨c,f,d,t,b,k⟩:=a;simp only [encK] at n x |-
 go_in;go_wp2_with fail;have h:∀ j,((w.alloc (.cells #[.int .i64 q.kind,.int .i64 q.frm,.int .i64 q.bal] 224)).alloc (.cells #[.int .i64 c,.int .i64 f,.int .i64 d,.int .i64 t,.int .i64 b,.int .i64 k] 176)).cell? ⟨w.heap.size + 1,j,none⟩=(#[.int .i64 c,.int .i64 f,.int .i64 d,.int .i64 t,.int .i64 b,.int .i64 k]:Array Value)[j]?:=fun j=>by
  simp
 have m:∀ j,((w.alloc (.cells #[.int .i64 q.kind,.int .i64 q.frm,.int .i64 q.bal] 224)).alloc (.cells #[.int .i64 c,.int .i64 f,.int .i64 d,.int .i64 t,.int .i64 b,.int .i64 k] 176)).cell? ⟨w.heap.size,j,none⟩=(#[.int .i64 q.kind,.int .i64 q.frm,.int .i64 q.bal]:Array Value)[j]?:=fun j=>by
  rw [vbq _ _ _ js,qau]
 have y:((w.alloc (.cells #[.int .i64 q.kind,.int .i64 q.frm,.int .i64 q.bal] 224)).alloc (.cells #[.int .i64 c,.int .i64 f,.int .i64 d,.int .i64 t,.int .i64 b,.int .i64 k] 176)).heap.size=w.heap.size + 2:=by simp
 have v:=hI (qab (bel1 w (.cells #[.int .i64 q.kind,.int .i64 q.frm,.int .i64 q.bal] 224)) (.cells #[.int .i64 c,.int .i64 f,.int .i64 d,.int .i64 t,.int .i64 b,.int .i64 k] 176));generalize (w.alloc (.cells #[.int .i64 q.kind,.int .i64 q.frm,.int .i64 q.bal] 224)).alloc (.cells #[.int .i64 c,.int .i64 f,.int .i64 d,.int .i64 t,.int .i64 b,.int .i64 k] 176)=g at h m y v |-
 have z:=fun p:ExtW g=>p.cell (a:=⟨w.heap.size + 1,0,none⟩) jso (h 0)
 have A:=fun p:ExtW g=>p.cell (a:=⟨w.heap.size + 1,1,none⟩) jso (h 1)
 have B:=fun p:ExtW g=>p.cell (a:=⟨w.heap.size + 1,2,none⟩) jso (h 2)
 have C:=fun p:ExtW g=>p.cell (a:=⟨w.heap.size + 1,3,none⟩) jso (h 3)
 have D:=fun p:ExtW g=>p.cell (a:=⟨w.heap.size + 1,4,none⟩) jso (h 4)
 have E:=fun p:ExtW g=>p.cell (a:=⟨w.heap.size + 1,5,none⟩) jso (h 5)
 have F:=fun p:ExtW g=>p.cell (a:=⟨w.heap.size,0,none⟩) jso (m 0)
 have G:=fun p:ExtW g=>p.cell (a:=⟨w.heap.size,1,none⟩) jso (m 1)
 have H:=fun p:ExtW g=>p.cell (a:=⟨w.heap.size,2,none⟩) jso (m 2)
 clear h m y;refine wprX ?_
 repeat (go_big_quiet_step ((go_at_call 198;exact Calls.ext_of (x.out _))))
 refine van ?_;intro I s;obtain ⟨⟨W,l⟩,i⟩:=s;have u:I=W:=i;subst u;have o:=hI (qaa v.out l);clear l i z A B C D E F G H;go_wp2;go_ret;exact ⟨rfl,o.out⟩
def IdxK (z:Array AK) (n:Nat) (a:AK) (e:Ending):Prop:=∃ r:Int,e=.returned (.int .i64 r)/\((0<=r/\hadN z n a=true)\/(r = -1/\hadN z n a=false))
theorem zag (A:Option Addr) (c n:Nat) (z:Array AK) (q:AK) (w:World) (h:RdK encK 6 w.heap.size w A z) (Q:n<=z.size) (R:z.size<=1000000) :
 Calls prog 250 #[.slice A n c,.func (.func 199) #[.agg #[.int .i64 q.kind,.int .i64 q.frm,.int .i64 q.bal]] #[]] w fun e w'=>IdxK z n q e/\Below w.heap.size w w':=by
 have J:=hI h;clear h;go_in;go_wp2
 go_loopw [8] (fun i wr=>∃ k:Nat,i=.int .i64 k/\k<=n/\Hid (∀ j,j < k->qB z[j]! q=false)/\Hid (Below w.heap.size w wr)) (fun i _=>n - (intOf i).toNat)
 case atStart=>exact ⟨0,rfl,vaj _,hI (fun j y=>absurd y jo),hI (vag _ _)⟩
 case round =>
  obtain ⟨k,rfl,P,d,r⟩:=hrel;by_cases M:k < n
  .have S:(k:Int) < (n:Int):=by omega
   obtain ⟨b,N,rfl,L,f⟩:=(J.out.below r.out).at_ (i:=k) jo;have B:=f 0 jo;have C:=f 1 jo;have D:=f 2 jo;have E:=f 3 jo;have F:=f 4 jo;have G:=f 5 jo;have a:=hI (fun W=>is_any q z[k]! W);have K:Hid (qB z[k]! q=qB z[k]! q):=rfl;generalize I:z[k]! = x at B C D E F G a;have m:=hI I;clear I K f;obtain ⟨p,v,u,t,o,O⟩:=x;simp only [encK,vak,vac,vaf] at B C D E F G a;cases l:qB ⟨p,v,u,t,o,O⟩ q
   .rw [l] at a
    have s:=hI l;clear l;go_wp2_with (go_at_call 199;refine (a.out _).mono ?_;rintro e w' ⟨rfl,g⟩);go_roundw
    case rel =>
     refine ⟨k + 1,by go_num,by omega,hI (fun j y=>?_),hI (qaa r.out g)⟩;rcases val j k with h | h
     .exact d.out j h
     obtain rfl:j=k:=by omega
     rw [m.out];exact s.out
    case measure=>simp [intOf];omega
   rw [l] at a;have s:=hI l;clear l;go_wp2_with (go_at_call 199;refine (a.out _).mono ?_;rintro e w' ⟨rfl,g⟩);go_ret;exact ⟨⟨k,rfl,Or.inl ⟨by omega,qxk k jo (by rw [m.out];exact s.out)⟩⟩,qaa r.out g⟩
  have H:decide ((k:Int) < (n:Int))=false:=by simp;omega
  go_wp2;go_ret;exact ⟨⟨-1,rfl,Or.inr ⟨rfl,hadN_no fun j y=>d.out j jo⟩⟩,r.out⟩
theorem zah (A:Option Addr) (c n:Nat) (z:Array AK) (q:AK) (w:World) (h:RdK encK 6 w.heap.size w A z) (k:n<=z.size) (l:z.size<=1000000) :
 Calls prog 201 #[.slice A n c,.func (.func 199) #[.agg #[.int .i64 q.kind,.int .i64 q.frm,.int .i64 q.bal]] #[]] w fun e w'=>e=.returned (.bool (hadN z n q))/\Below w.heap.size w w':=by
 have i:=hI (zag A c n z q w h k l);clear h;go_in;go_wp2_with fail;refine i.out.mono ?_;rintro e w' ⟨⟨r,rfl,f⟩,d⟩;have a:=hI f;have g:=hI d;clear f d;go_wp2;go_ret;refine ⟨qad ?_,g.out⟩;rcases a.out with ⟨j,b⟩ | ⟨j,b⟩
 .rw [b];simp;omega
 rw [b];simp;omega
def qsh (x:Nat):Nat->Nat
 | 0=>0
 | k + 1=>qsh x k + if x.testBit k then 1 else 0
def F1_C (x:Int):Int:=IntKind.u64.wrap (bits .and .u64 (x / 2) 6148914691236517205 + bits .and .u64 x 6148914691236517205)
def F2_C (y:Int):Int:=IntKind.u64.wrap (bits .and .u64 (y / 4) 3689348814741910323 + bits .and .u64 y 3689348814741910323)
def F3_C (y:Int):Int:=bits .and .u64 (y / 16 + y) 1085102592571150095
def F4_C (y:Int):Int:=bits .and .i64 (y + y / 256 + (y + y / 256) / 65536 + (y + y / 256 + (y + y / 256) / 65536) / 4294967296) 127
theorem pc_all_C:∀ x:Fin 512,0<=F1_C (x.1:Int)/\F1_C (x.1:Int)<=5000/\0<=F2_C (F1_C (x.1:Int))/\F2_C (F1_C (x.1:Int))<=5000/\0<=F3_C (F2_C (F1_C (x.1:Int)))/\F3_C (F2_C (F1_C (x.1:Int)))<=5000/\F4_C (F3_C (F2_C (F1_C (x.1:Int))))=(qsh x.1 9:Int):=by decide +kernel
theorem qsi (x:Nat) (w:World) (o:x<=511) :
 Calls prog 295 #[.int .u64 x] w fun e w'=>e=.returned (.int .i64 (qsh x 9))/\w=w':=by
 obtain ⟨f,i,g,j,h,k,c⟩:=pc_all_C ⟨x,by omega⟩;have d:Hid (F4_C (F3_C (F2_C (F1_C (x:Int))))=(qsh x 9:Int)):=c;simp only [] at f i g j h k;have l:IntKind.u64.wrap (bits .and .u64 ((x:Int) / 2) 6148914691236517205 + bits .and .u64 (x:Int) 6148914691236517205)=F1_C (x:Int):=rfl;generalize F1_C (x:Int)=a at *;have m:IntKind.u64.wrap (bits .and .u64 (a / 4) 3689348814741910323 + bits .and .u64 a 3689348814741910323)=F2_C a:=rfl;generalize F2_C a=b at *;have n:bits .and .u64 (b / 16 + b) 1085102592571150095=F3_C b:=rfl;generalize F3_C b=q at *;have p:(0:Int)<=x:=by omega
 clear c;go_in;go_wp2;go_ret;exact ⟨qag (by rw [<-d.out];rfl),rfl⟩
theorem zai (x:Nat) (w:World) (a:x<=511) :
 Calls prog 268 #[.int .u64 x] w fun e w'=>e=.returned (.int .i64 (qsh x 9))/\w=w':=by
 go_in;go_wp2_with (go_at_call 295;refine (qsi _ _ a).mono ?_;rintro e w' ⟨rfl,rfl⟩);go_ret;exact ⟨rfl,rfl⟩
theorem qsj (s:Int) (w:World) :
 Calls prog 267 #[.int .i64 s] w fun e w'=>e=.returned (.bool (decide (0<=s/\s<=511)))/\w=w':=by
 go_in;go_wp2
 all_goals
  go_ret;exact ⟨qad (by simp <;> omega),rfl⟩
theorem qva (x:Nat) (w:World) (c:x<=511) :
 Calls prog 234 #[.int .i64 x] w fun e w'=>e=.returned (.int .i64 (qsh x 9))/\w=w':=by
 have a:=qsj (x:Int);rw [show decide (0<=(x:Int)/\(x:Int)<=511)=true by simp;omega] at a;have b:=hI a;clear a;go_in;go_wp2_with (first | (go_at_call 267;refine (b.out _).mono ?_;rintro e w' ⟨rfl,rfl⟩) | (go_at_call 268;refine (zai _ _ c).mono ?_;rintro e w' ⟨rfl,rfl⟩));go_ret;exact ⟨rfl,rfl⟩
theorem pc_pos_C:∀ x:Fin 512,0 < x.1->0 < qsh x.1 9:=by decide +kernel
def cntN (q:Int):Int:=if 0<=q/\q<=511 then (qsh q.toNat 9:Int) else 0
theorem cntN_zero (q:Int):(cntN q == 0)=decide (q < 1\/511 < q):=by
 unfold cntN;by_cases h:0<=q/\q<=511
 .rw [vam h]
  rcases vba q.toNat with a | a
  .have b:q=0:=by omega
   subst b;rfl
  have:=pc_pos_C ⟨q.toNat,by omega⟩ a
  simp only [] at this;rw [vab jo];exact vch.2 jo
 rw [vao h,vah jo];rfl
theorem zaj (q:Int) (w:World):Calls prog 234 #[.int .i64 q] w fun e w'=>e=.returned (.int .i64 (cntN q))/\w=w':=by
 by_cases h:0<=q/\q<=511
 .have:=qva q.toNat w jo
  rw [show ((q.toNat:Nat):Int)=q by omega] at this;unfold cntN;rw [vam h];exact this
 have a:=hI (fun W=>qsj q W);rw [show decide (0<=q/\q<=511)=false by simp;omega] at a;unfold cntN;rw [vao h];clear h;go_in;go_wp2_with (go_at_call 267;refine (a.out _).mono ?_;rintro e w' ⟨rfl,rfl⟩);go_ret;exact ⟨rfl,rfl⟩
def encR (x:Int×Int):List Value:=[.int .i64 x.1,.int .i64 x.2]
def qhs (d:Array (Int×Int)) (k:Nat):Bool:=decide (d[k]!.1 < 1\/1000000 < d[k]!.2\/d[k]!.2 < d[k]!.1\/(0 < k/\d[k]!.1 - 1<=d[k - 1]!.2))
def qam (d:Array (Int×Int)):Int:=if 1000 < d.size\/(List.range d.size).any (qhs d)=true then 2 else 0
theorem qxl {d:Array (Int×Int)} {k:Nat} (a:k < d.size) (h:qhs d k=true):qam d=2:=by
 unfold qam;rw [vam];right;rw [vca];exact ⟨k,by simpa using a,h⟩
theorem qxm {d:Array (Int×Int)} (h:1000 < d.size):qam d=2:=by unfold qam;rw [vam (Or.inl h)]
theorem qvb {d:Array (Int×Int)} (e:d.size<=1000) (h:∀ k,k < d.size->qhs d k=false):qam d=0:=by
 unfold qam;rw [vao];rintro (a | a)
 .omega
 rw [vca] at a;obtain ⟨k,c,b⟩:=a;rw [h k (by simpa using c)] at b;cases b
theorem qcy {d:Array (Int×Int)} (h:qam d=0):d.size<=1000/\∀ k,k < d.size->qhs d k=false:=by
 unfold qam at h;split at h
 .cases h
 rename_i b;refine ⟨by omega,fun k c=>?_⟩;cases a:qhs d k
 .rfl
 exact absurd (Or.inr (by rw [vca];exact ⟨k,by simpa using c,a⟩)) b
def qof (d:Array (Int×Int)) (k:Nat):Int:=if k=0 then -1 else d[k - 1]!.2
theorem qkv (A:Option Addr) (c:Nat) (d:Array (Int×Int)) (w:World) (h:RdK encR 2 w.heap.size w A d) :
 Calls prog 128 #[.slice A d.size c] w fun e w'=>e=.returned (.int .i64 (qam d))/\Below w.heap.size w w':=by
 by_cases z:1000 < d.size
 .have B:=hI (qxm z)
  have C:(1000:Int) < (d.size:Int):=by omega
  go_in;go_wp2;go_ret;exact ⟨qag B.out.symm,vag _ _⟩
 have r:d.size<=1000:=by omega
 have C:decide ((1000:Int) < (d.size:Int))=false:=by simp;omega
 clear z;have q:=hI (qvb r);go_in;go_wp2
 go_loopw [3,11] (fun l i wr=>∃ k:Nat,k<=d.size/\i=.int .i64 k/\l=.int .i64 (qof d k)/\-1<=qof d k/\qof d k<=1000000/\(∀ j,j < k->qhs d j=false)/\Below w.heap.size w wr) (fun _ i _=>d.size - (intOf i).toNat)
 case atStart=>exact ⟨0,vaj _,rfl,rfl,by simp [qof],by simp [qof],fun j a=>absurd a jo,vag _ _⟩
 case round =>
  obtain ⟨k,F,rfl,rfl,H,I,a,n⟩:=hrel;have s:=hI a;clear a;by_cases g:k < d.size
  .obtain ⟨b,D,rfl,_,f⟩:=(h.below n).at_ g
   have t:=f 0 jo;have u:=f 1 jo;have o:Hid (qhs d k=decide (d[k]!.1 < 1\/1000000 < d[k]!.2\/d[k]!.2 < d[k]!.1\/d[k]!.1<=qof d k + 1)):=by
    show _=_;unfold qhs qof;rw [vee];by_cases y:k=0
    .subst y;simp;omega
    rw [vao y];constructor <;> intro E <;> omega
   have m:Hid (qof d (k + 1)=d[k]!.2):=by show _=_;unfold qof;rw [vao jo];rfl
   have p:=hI (fun h=>@qxl d k g h);generalize d[k]! = x at t u o m;simp only [vak,encR,vac,vaf] at t u;generalize qof d k=l at *;clear f;have G:(k:Int) < (d.size:Int):=by omega
   go_wp2
   all_goals first
    | (go_ret;exact ⟨qag (p.out (by rw [o.out];simp;omega)).symm,qab n _⟩)
    | exact ⟨⟨k + 1,by omega,by go_num,by rw [m.out],by rw [m.out];omega,by rw [m.out];omega,fun j a=>by
       rcases val j k with v | v
       .exact s.out j v
       obtain rfl:j=k:=by omega
       rw [o.out];simp;omega,qab n _⟩,by simp [intOf];omega⟩
  go_wp2;go_ret;exact ⟨qag (q.out fun j a=>s.out j jo).symm,n⟩
theorem qdw (A:Option Addr) (c:Nat) (d:Array (Int×Int)) (B:Nat) (w:World) (h:RdK encR 2 B w A d) :
 Calls prog 118 #[.slice A d.size c] w fun e w'=>e=.returned (.int .i64 (qam d))/\∃ q,w'=w.drewN q:=by
 by_cases H:1000 < d.size
 .have J:=hI (qxm H)
  have M:(1000:Int) < (d.size:Int):=by omega
  go_in;go_wp2;go_ret;exact ⟨qag J.out.symm,0,rfl⟩
 have u:d.size<=1000:=by omega
 have M:decide ((1000:Int) < (d.size:Int))=false:=by simp;omega
 clear H;have r:=hI (qvb u);go_in;go_wp2
 go_loopw [3] (fun i wr=>∃ k q:Nat,k<=d.size/\i=.int .i64 k/\wr=w.drewN q/\(∀ j,j < k->qhs d j=false)) (fun i _=>d.size - (intOf i).toNat)
 case atStart=>exact ⟨0,0,vaj _,rfl,rfl,fun j l=>absurd l jo⟩
 case round =>
  obtain ⟨k,q,U,rfl,rfl,l⟩:=hrel;have D:=hI l;clear l;by_cases n:k < d.size
  .have t:=h
   obtain ⟨b,N,rfl,_,f⟩:=h.at_ n;have o:=f 0 jo;have p:=f 1 jo;have a:=hI (fun h=>@qxl d k n h);clear f;have V:(k:Int) < (d.size:Int):=by omega
   cases k with
   | zero =>
     have g:Hid (qhs d 0=decide (d[0]!.1 < 1\/1000000 < d[0]!.2\/d[0]!.2 < d[0]!.1)):=by
      show _=_;unfold qhs;rw [vee];simp
     generalize d[0]! = x at o p g;simp only [vak,Nat.zero_mul,encR,vac,vaf] at o p;clear t;by_cases O:x.1 < 1
     .go_wp2_with fail
      go_quiet (fail);go_wp2;go_ret;exact ⟨qag (a.out (by rw [g.out];simp;omega)).symm,_,vcs _ _ _⟩
     have v:decide (x.1 < 1)=false:=by simp;omega
     by_cases P:1000000 < x.2
     .go_wp2_with fail
      go_quiet (fail);go_wp2;go_ret;exact ⟨qag (a.out (by rw [g.out];simp;omega)).symm,_,vcs _ _ _⟩
     have z:decide (1000000 < x.2)=false:=by simp;omega
     by_cases Q:x.2 < x.1
     .go_wp2_with fail
      go_quiet (fail);go_wp2;go_ret;exact ⟨qag (a.out (by rw [g.out];simp;omega)).symm,_,vcs _ _ _⟩
     have C:decide (x.2 < x.1)=false:=by simp;omega
     go_wp2_with fail;go_quiet (fail);go_wp2;go_roundw
     case rel=>exact ⟨1,_,by omega,rfl,rfl,fun j l=>by
      obtain rfl:j=0:=by omega
      rw [g.out];simp;omega⟩
     case measure=>simp [intOf];omega
   | succ m =>
     have g:Hid (qhs d (m + 1)=decide (d[m + 1]!.1 < 1\/1000000 < d[m + 1]!.2\/d[m + 1]!.2 < d[m + 1]!.1\/d[m + 1]!.1 - 1<=d[m]!.2)):=by
      show _=_;unfold qhs;rw [vee];simp
     obtain ⟨S,I,s,_,E⟩:=t.at_ (i:=m) jo;injection s with s
     injection s with e1 e2
     subst e1 e2;have F:=E 1 jo;clear E t;generalize d[m + 1]! = x at o p g;generalize d[m]! = y at F g;simp only [vak,encR,vac,vaf] at o p F;have Y:(0:Int)<=(m:Int) + 1:=by omega
     have Z:(0:Int) < (m:Int) + 1:=by omega
     have T:((m:Int) + 1).toNat=m + 1:=by omega
     have K:IntKind.i64.wrap (m:Int)=(m:Int):=by rw [vbc];omega
     have X:(m:Int) < (d.size:Int):=by omega
     by_cases O:x.1 < 1
     .go_wp2_with fail
      go_quiet (fail);go_wp2;go_ret;exact ⟨qag (a.out (by rw [g.out];simp;omega)).symm,_,vcs _ _ _⟩
     have v:decide (x.1 < 1)=false:=by simp;omega
     by_cases P:1000000 < x.2
     .go_wp2_with fail
      go_quiet (fail);go_wp2;go_ret;exact ⟨qag (a.out (by rw [g.out];simp;omega)).symm,_,vcs _ _ _⟩
     have z:decide (1000000 < x.2)=false:=by simp;omega
     by_cases Q:x.2 < x.1
     .go_wp2_with fail
      go_quiet (fail);go_wp2;go_ret;exact ⟨qag (a.out (by rw [g.out];simp;omega)).symm,_,vcs _ _ _⟩
     have C:decide (x.2 < x.1)=false:=by simp;omega
     have L:IntKind.i64.wrap (x.1 - 1)=x.1 - 1:=by rw [vbc];omega
     by_cases t4:x.1 - 1<=y.2
     .go_wp2_with fail
      go_quiet (fail);go_wp2;go_ret;exact ⟨qag (a.out (by rw [g.out];simp;omega)).symm,_,vcs _ _ _⟩
     have R:decide (x.1 - 1<=y.2)=false:=by simp;omega
     go_wp2_with fail;go_quiet (fail);go_wp2;go_roundw
     case rel=>exact ⟨m + 1 + 1,_,by omega,by go_num,rfl,fun j l=>by
      rcases val j (m + 1) with G | G
      .exact D.out j G
      obtain rfl:j=m + 1:=by omega
      rw [g.out];simp;omega⟩
     case measure=>simp [intOf];omega
  go_wp2;go_ret;exact ⟨qag (r.out fun j l=>D.out j jo).symm,q,rfl⟩
def qcg (n:Int) (x:Int×Int):Bool:=decide (x.1<=n/\n<=x.2)
def inR (d:Array (Int×Int)) (n:Int):Bool:=d.toList.any (qcg n)
theorem qqm {d:Array (Int×Int)} {n:Int} {j:Nat} (a:j < d.size) (h:qcg n d[j]! = true):inR d n=true:=by
 unfold inR;rw [vca];exact ⟨d[j]!,by rw [vae d j a];simp,h⟩
theorem inR_no {d:Array (Int×Int)} {n:Int} (h:∀ j,j < d.size->qcg n d[j]! = false):inR d n=false:=by
 unfold inR;rw [vdu];intro x b;obtain ⟨j,a,rfl⟩:=vbt.1 b
 have:=h j (by simpa using a)
 rw [vae d j (by simpa using a)] at this;simpa using this
theorem zak {d:Array (Int×Int)} (h:qam d=0) {k:Nat} (a:k < d.size):1<=d[k]!.1/\d[k]!.1<=d[k]!.2/\d[k]!.2<=1000000/\(0 < k->d[k - 1]!.2 + 1 < d[k]!.1):=by
 have:=(qcy h).2 k a
 unfold qhs at this;rw [vat] at this;refine ⟨by omega,by omega,by omega,fun b=>by omega⟩
theorem qgc (A:Option Addr) (c:Nat) (d:Array (Int×Int)) (w:World) (h:RdK encR 2 w.heap.size w A d) :
 Calls prog 150 #[.slice A d.size c] w fun e w'=>e=.returned (.bool (qam d == 0))/\Below w.heap.size w w':=by
 go_in;go_wp2_with (go_at_call 128;refine (qkv _ _ d _ h).mono ?_;rintro e w' ⟨rfl,a⟩);go_ret;exact ⟨rfl,a⟩
theorem has1_any (n:Int) (x:Int×Int) (a:Addr) (w:World) (b:a.block < w.heap.size) (c:w.cell? a=some (.int .i64 n)) :
 Calls prog 152 #[.agg #[.int .i64 x.1,.int .i64 x.2],.pointer (some a)] w fun e w'=>e=.returned (.bool (qcg n x))/\Below w.heap.size w w':=by
 have d:∀ o,(w.alloc o).cell? a=some (.int .i64 n):=fun o=>(vbq w o a b).trans c
 go_in;go_wp2
 all_goals
  go_ret;refine ⟨qad ?_,bel1 _ _⟩;unfold qcg
  first | (rw [vbd,vbj,vbj];omega) | (symm;rw [vbj];omega) | (symm;rw [vat];omega)
theorem qvc (A:Option Addr) (c:Nat) (a:Value) (w:World) :
 Calls prog 151 #[.slice A 0 c,a] w fun e w'=>e=.returned (.bool false)/\w=w':=by
 go_in;go_wp2;refine vdi 1 ?_;rw [vcy];go_wp2;go_ret;exact ⟨rfl,rfl⟩
theorem ContR (p:Int×Int->Bool) (g:Nat) (lb:Array Value) (A:Option Addr) (c:Nat) (d:Array (Int×Int)) (w:World) (h:RdK encR 2 w.heap.size w A d) (D:d.size<=100000000) (s:∀ a w,(callFunc g a).run prog w=.ok (.enter g a) w) (B:PredBelow prog g lb (fun x:Int×Int=>.agg (encR x).toArray) p w) :
 Calls prog 151 #[.slice A d.size c,.func (.func g) #[] lb] w fun e w'=>e=.returned (.bool (d.toList.any p))/\Below w.heap.size w w':=by
 rcases vba d.size with m | m
 .have q:d=#[]:=var m
  subst q;exact (qvc A c _ w).mono fun e w' ⟨y,C⟩=>⟨by rw [y];rfl,by rw [<-C];exact vag _ _⟩
 obtain ⟨b,n,rfl,t,u⟩:=h m
 have:=AnyQ.slices_ContainsFunc laysContR 2 isAgg124 sizeOf124 encR (fun _=>rfl) p g lb s b n d.size c d.toList w B js jo t (fun j z i v k=>by
  have f:j < d.size:=by simpa using z
  have o:i < 2:=by
   rcases val i 2 with l | l
   .exact l
   rw [vbr (by show 2<=i;exact l)] at k;cases k
  have r:d.toList[j]! = d[j]!:=by simp [f]
  rw [r] at k;rw [vdl,u _ (quy f o),qfw _ _ _ _ _ f o]
  rw [vdg,k];rfl)
 rwa [show d.toList.take d.size=d.toList from vaz js] at this
def qbg (d:Array (Int×Int)) (n:Int):Bool:=(qam d == 0) && inR d n
theorem qkc (A:Option Addr) (c:Nat) (d:Array (Int×Int)) (n:Int) (w:World) (h:RdK encR 2 w.heap.size w A d) :
 Calls prog 71 #[.slice A d.size c,.int .i64 n] w fun e w'=>e=.returned (.bool (qbg d n))/\Below w.heap.size w w':=by
 have q:=hI ((h.alloc (vaa _) (.cells #[.int .i64 n] 3)).mono (show w.heap.size<=(w.alloc (.cells #[.int .i64 n] 3)).heap.size by simp));by_cases i:qam d=0
 .have o:(qam d == 0)=true:=by simp [i]
  have u:=(qcy i).1;have k:Hid (qbg d n=inR d n):=by show _=_;unfold qbg;rw [o];rfl
  clear i;go_in;go_wp2_with fail;refine (qgc _ _ d _ q.out).mono ?_;rintro e f ⟨rfl,a⟩;have j:w.heap.size < f.heap.size:=by have:=a.size;simp at this;omega
  have g:f.cell? ⟨w.heap.size,0,none⟩=some (.int .i64 n):=(a.cell (p:=⟨w.heap.size,0,none⟩) js).trans (qau w _ _ 0);have s:Calls prog 151 #[.slice A d.size c,.func (.func 152) #[] #[.pointer (some ⟨w.heap.size,0,none⟩)]] f fun e w'=>e=.returned (.bool (inR d n))/\Below f.heap.size f w':=ContR (qcg n) 152 #[.pointer (some ⟨w.heap.size,0,none⟩)] A c d f ((q.out.below a).mono a.size) jo (veb func152 jk rfl)
   (fun W x b=>(has1_any n x ⟨w.heap.size,0,none⟩ W (vad j b.size) ((b.cell (p:=⟨w.heap.size,0,none⟩) j).trans g)).mono fun _ _ ⟨t,l⟩=>⟨t,b.trans (l.mono b.size)⟩)
  have r:=hI s;clear s g;generalize inR d n=v at r k;go_wp2_with fail;refine r.out.mono ?_;rintro e y ⟨rfl,m⟩;go_wp2;go_ret;exact ⟨qad k.out.symm,qaa (qaa (bel1 _ _) a) m⟩
 have o:(qam d == 0)=false:=by simpa using i
 have k:Hid (qbg d n=false):=by show _=_;unfold qbg;rw [o];rfl
 clear i;go_in;go_wp2_with fail;refine (qgc _ _ d _ q.out).mono ?_;rintro e f ⟨rfl,a⟩;go_wp2;go_ret;exact ⟨qad k.out.symm,qaa (bel1 _ _) a⟩
theorem qeb (A:Option Addr) (c:Nat) (d:Array (Int×Int)) (n:Int) (B:Nat) (w:World) (h:RdK encR 2 B w A d) (C:d.size<=100000000) :
 Calls prog 229 #[.slice A d.size c,.int .i64 n] w fun e w'=>e=.returned (.bool (inR d n))/\w=w':=by
 have u:=hI (fun j a v=>@qqm d n j a v);have t:=hI (@inR_no d n);go_in;go_wp2
 go_loop [5] (fun i=>∃ k:Nat,k<=d.size/\i=.int .i64 k/\∀ j,j < k->qcg n d[j]! = false) (fun i=>d.size - (intOf i).toNat)
 case atStart=>exact ⟨0,vaj _,rfl,fun j a=>absurd a jo⟩
 case round =>
  obtain ⟨k,D,rfl,a⟩:=hrel;have p:=hI a;clear a;by_cases m:k < d.size
  .obtain ⟨b,z,rfl,_,f⟩:=h.at_ m
   have q:=f 0 jo;have r:=f 1 jo;have o:Hid (qcg n d[k]! = decide (d[k]!.1<=n/\n<=d[k]!.2)):=rfl;have l:=hI (u.out k m);have g:Hid (qcg n d[k]! = false->∀ j,j < k + 1->qcg n d[j]! = false):=fun y j a=>by
    rcases val j k with s | s
    .exact p.out j s
    obtain rfl:j=k:=by omega
    exact y
   generalize d[k]! = x at q r o l g;simp only [vak,encR,vac,vaf] at q r;clear f;have E:(k:Int) < (d.size:Int):=by omega
   go_wp2
   all_goals first
    | (go_ret;exact ⟨qad (l.out (by rw [o.out];simp;omega)).symm,rfl⟩)
    | exact ⟨⟨k + 1,by omega,by go_num,g.out (by rw [o.out];simp;omega)⟩,by simp [intOf];omega⟩
  go_wp2;go_ret;exact ⟨qad (t.out fun j a=>p.out j jo).symm,rfl⟩
theorem qnb (A:Option Addr) (c:Nat) (d:Array (Int×Int)) (n:Int) (B:Nat) (w:World) (h:RdK encR 2 B w A d) :
 Calls prog 182 #[.slice A d.size c,.int .i64 n] w fun e w'=>e=.returned (.bool (qbg d n))/\Below w.heap.size w w':=by
 by_cases a:qam d=0
 .have f:(qam d == 0)=true:=by simp [a]
  have i:=(qcy a).1;have b:Hid (qbg d n=inR d n):=by show _=_;unfold qbg;rw [f];rfl
  clear a;go_in;go_wp2_with fail;refine (qdw _ _ d _ _ h).mono ?_;rintro e g ⟨rfl,q,rfl⟩;go_wp2_with fail;refine (qeb _ _ d _ B _ (by exact h) jo).mono ?_;rintro e j ⟨rfl,rfl⟩;go_wp2;go_ret;exact ⟨qad b.out.symm,qaj (vag _ _) _⟩
 have f:(qam d == 0)=false:=by simpa using a
 have b:Hid (qbg d n=false):=by show _=_;unfold qbg;rw [f];rfl
 clear a;go_in;go_wp2_with fail;refine (qdw _ _ d _ _ h).mono ?_;rintro e g ⟨rfl,q,rfl⟩;go_wp2;go_ret;exact ⟨qad b.out.symm,qaj (vag _ _) _⟩
def preB (b:Int) (x:Int×Int):Bool:=decide (x.1 - 1<=b/\b < x.2)
def preE (d:Array (Int×Int)) (b:Int):Int:=if qam d=0 then ((d.toList.find? (preB b)).map (·.2)).getD b else b
theorem preE_at {d:Array (Int×Int)} {b:Int} {k:Nat} (f:qam d=0) (c:k < d.size) (e:∀ j,j < k->preB b d[j]! = false) (h:preB b d[k]! = true):preE d b=d[k]!.2:=by
 unfold preE;rw [vam f]
 have:d.toList.find? (preB b)=some d[k]!:=by
  rw [List.find?_eq_some_iff_getElem];refine ⟨h,k,by simpa using c,by rw [vae d k c];simp,fun j a=>?_⟩
  have:=e j a
  rw [vae d j jo] at this;simpa using this
 rw [this];rfl
theorem preE_no {d:Array (Int×Int)} {b:Int} (c:∀ j,j < d.size->preB b d[j]! = false):preE d b=b:=by
 unfold preE;split
 .have:d.toList.find? (preB b)=none:=by
   rw [List.find?_eq_none];intro x e;obtain ⟨j,a,rfl⟩:=vbt.1 e
   have:=c j (by simpa using a)
   rw [vae d j (by simpa using a)] at this;simpa using this
  rw [this];rfl
 rfl
theorem qxn {d:Array (Int×Int)} {b:Int} (a:qam d≠0):preE d b=b:=by unfold preE;rw [vao a]
theorem qvd (A:Option Addr) (c:Nat) (d:Array (Int×Int)) (n:Int) (w:World) (h:RdK encR 2 w.heap.size w A d) :
 Calls prog 158 #[.slice A d.size c,.int .i64 n] w fun e w'=>e=.returned (.int .i64 (preE d n))/\Below w.heap.size w w':=by
 by_cases a:qam d=0
 .have H:(qam d == 0)=true:=by simp [a]
  have D:=hI (fun k r=>@preE_at d n k a r);have B:=hI (@preE_no d n);have C:=hI (fun k r=>@zak d a k r);have E:=(qcy a).1;clear a;go_in;go_wp2_with fail;refine (qgc _ _ d _ h).mono ?_;rintro e J ⟨rfl,g⟩;go_wp2
  go_loopw [13] (fun i wr=>∃ k:Nat,k<=d.size/\i=.int .i64 k/\(∀ j,j < k->preB n d[j]! = false)/\Below w.heap.size w wr) (fun i _=>d.size - (intOf i).toNat)
  case atStart=>exact ⟨0,vaj _,rfl,fun j m=>absurd m jo,g⟩
  case round =>
   obtain ⟨k,r,rfl,m,q⟩:=hrel;have t:=hI m;clear m;by_cases l:k < d.size
   .obtain ⟨b,I,rfl,_,f⟩:=(h.below q).at_ l
    have u:=f 0 jo;have v:=f 1 jo;have G:=C.out k l;have s:Hid (preB n d[k]! = decide (d[k]!.1 - 1<=n/\n < d[k]!.2)):=rfl;have p:=hI (D.out k l t.out);have o:Hid (preB n d[k]! = false->∀ j,j < k + 1->preB n d[j]! = false):=fun F j m=>by
     rcases val j k with y | y
     .exact t.out j y
     obtain rfl:j=k:=by omega
     exact F
    generalize d[k]! = x at u v s p o G;simp only [vak,encR,vac,vaf] at u v;clear f;have K:(k:Int) < (d.size:Int):=by omega
    go_wp2
    all_goals first
     | (go_ret;exact ⟨qag (p.out (by rw [s.out];simp;omega)).symm,qab q _⟩)
     | exact ⟨⟨k + 1,by omega,by go_num,o.out (by rw [s.out];simp;omega),qab q _⟩,by simp [intOf];omega⟩
   go_wp2;go_ret;exact ⟨qag (B.out fun j m=>t.out j jo).symm,q⟩
 have H:(qam d == 0)=false:=by simpa using a
 have z:=hI (qxn (b:=n) a);clear a;go_in;go_wp2_with fail;refine (qgc _ _ d _ h).mono ?_;rintro e J ⟨rfl,g⟩;go_wp2;go_ret;exact ⟨qag z.out.symm,g⟩
theorem qsk (A:Option Addr) (c:Nat) (d:Array (Int×Int)) (n:Int) (B:Nat) (w:World) (h:RdK encR 2 B w A d) :
 Calls prog 183 #[.slice A d.size c,.int .i64 n] w fun e w'=>e=.returned (.int .i64 (preE d n))/\∃ q,w'=w.drewN q:=by
 by_cases o:qam d=0
 .have E:=hI (fun k r=>@preE_at d n k o r)
  have C:=hI (@preE_no d n);have D:=hI (fun k r=>@zak d o k r);have H:=(qcy o).1;go_in;go_wp2_with fail;refine (qdw _ _ d B _ h).mono ?_;rintro e L ⟨rfl,q,rfl⟩;go_wp2
  go_loop [5] (fun i=>∃ k:Nat,k<=d.size/\i=.int .i64 k/\(∀ j,j < k->preB n d[j]! = false)) (fun i=>d.size - (intOf i).toNat)
  case atStart=>exact ⟨0,vaj _,rfl,fun j g=>absurd g jo⟩
  case round =>
   obtain ⟨k,r,rfl,g⟩:=hrel;have t:=hI g;clear g;by_cases a:k < d.size
   .obtain ⟨b,p,rfl,_,f⟩:=h.at_ a
    have u:=f 0 jo;have v:=f 1 jo;have J:=D.out k a;have s:Hid (preB n d[k]! = decide (d[k]!.1 - 1<=n/\n < d[k]!.2)):=rfl;have m:=hI (E.out k a t.out);have l:Hid (preB n d[k]! = false->∀ j,j < k + 1->preB n d[j]! = false):=fun I j g=>by
     rcases val j k with y | y
     .exact t.out j y
     obtain rfl:j=k:=by omega
     exact I
    generalize d[k]! = x at u v s m l J;simp only [vak,encR,vac,vaf] at u v;have F:(w.drewN q).cell? { block:=b,off:=p + k * 2 }=some (Value.int IntKind.i64 x.1):=u;have G:(w.drewN q).cell? { block:=b,off:=p + k * 2 + 1 }=some (Value.int IntKind.i64 x.2):=v;clear f;have M:(k:Int) < (d.size:Int):=by omega
    go_wp2
    all_goals first
     | (go_ret;exact ⟨qag (m.out (by rw [s.out];simp;omega)).symm,q,rfl⟩)
     | exact ⟨⟨k + 1,by omega,by go_num,l.out (by rw [s.out];simp;omega)⟩,by simp [intOf];omega⟩
   go_wp2;go_ret;exact ⟨qag (C.out fun j g=>t.out j jo).symm,q,rfl⟩
 have K:qam d≠0:=o;have z:=hI (qxn (b:=n) o);go_in;go_wp2_with fail;refine (qdw _ _ d B _ h).mono ?_;rintro e L ⟨rfl,q,rfl⟩;go_wp2;go_ret;exact ⟨qag z.out.symm,_,rfl⟩
end Go.Proofs.YtdcfffhoajmafaaGreat
namespace Go.Proofs.YtdcfffhoajmafaaGreat
open Go.RowKit Go.Sort Go.Proofs.Tryz
def qdq (x:Int):Value:=.int .i64 x
def RdI_R (B:Nat) (w:World) (A:Option Addr) (d:Array Int):Prop :=
 0 < d.size->∃ b off,A=some ⟨b,off,none⟩/\b < B/\∀ i,i < d.size->w.cell? ⟨b,off + i,none⟩=some (.int .i64 d[i]!)
section
variable {w w':World} {A:Option Addr} {d:Array Int} {B:Nat}
theorem RdI_R.below (h:RdI_R B w A d) (g:Below B w w'):RdI_R B w' A d:=fun f=>by
 obtain ⟨b,c,e,a,i⟩:=h f;exact ⟨b,c,e,a,fun t j=>(g.cell (p:=⟨b,c + t,none⟩) a).trans (i t j)⟩
theorem RdI_R.mono {c:Nat} (h:RdI_R B w A d) (j:B<=c):RdI_R c w A d:=fun f=>by
 obtain ⟨b,a,e,i,g⟩:=h f;exact ⟨b,a,e,by omega,g⟩
theorem RdI_R.alloc (h:RdI_R B w A d) (a:B<=w.heap.size) (o:Obj):RdI_R B (w.alloc o) A d:=h.below ((vag _ _).alloc a o)
theorem RdI_R.at_ (h:RdI_R B w A d) {i:Nat} (hi:i < d.size):∃ b a,A=some ⟨b,a,none⟩/\b < B/\w.cell? ⟨b,a + i,none⟩=some (.int .i64 d[i]!):=by
 obtain ⟨b,a,e,c,f⟩:=h jo;exact ⟨b,a,e,c,f i hi⟩
theorem RdI_R.none_:RdI_R B w A #[]:=fun h=>absurd h jd
theorem RdI_R.new (w:World) (d:Array Int) (e:TypeId) (cs:Array Value) (h:cs=d.map qdq):RdI_R (w.heap.size + 1) (w.alloc (.cells cs e)) (some ⟨w.heap.size,0,none⟩) d:=fun _ =>
 ⟨_,_,rfl,vcr _,fun i a=>by
  rw [qau,vcc,h,vcv,vbe a,vae _ i a];rfl⟩
end
def qgj (n:Int):Int:=if n < 3\/9 < n then 0 else n / 2 + 1
def zal (n:Int):Bool:=decide (3<=n/\n<=9)
theorem qiq (n:Int) (w:World) :
 Calls prog 189 #[.int .i64 n] w fun e w'=>e=.returned (.bool (zal n))/\w=w':=by
 go_in;go_wp2
 all_goals
  go_ret;exact ⟨qad (by unfold zal;simp <;> omega),rfl⟩
theorem qsl {n:Int} (h:3<=n) (a:n<=9):zal n=true:=by unfold zal;simp;omega
theorem qxo {n:Int} (h:n < 3\/9 < n):zal n=false:=by unfold zal;simp;omega
theorem qhj (n:Int) (w:World) :
 Calls prog 160 #[.int .i64 n] w fun e w'=>e=.returned (.int .i64 (qgj n))/\w=w':=by
 by_cases h:n < 3\/9 < n
 .have d:=qxo h
  have a:Hid (qgj n=0):=by show _=_;unfold qgj;rw [vam h]
  clear h;go_in;go_wp2_with (go_at_call 189;refine (qiq _ _).mono ?_;rintro e w' ⟨rfl,rfl⟩);go_ret;exact ⟨qag a.out.symm,rfl⟩
 have b:3<=n:=by omega
 have c:n<=9:=by omega
 have d:=qsl b c;have a:Hid (qgj n=n / 2 + 1):=by show _=_;unfold qgj;rw [vao h]
 clear h;go_in;go_wp2_with (go_at_call 189;refine (qiq _ _).mono ?_;rintro e w' ⟨rfl,rfl⟩);go_ret;exact ⟨qag a.out.symm,rfl⟩
theorem qnc (n:Int) (w:World) :
 Calls prog 186 #[.int .i64 n] w fun e w'=>e=.returned (.int .i64 (qgj n))/\w=w':=by
 go_in;go_wp2
 all_goals
  go_ret;exact ⟨qag (by unfold qgj;split <;> omega),rfl⟩
end Go.Proofs.YtdcfffhoajmafaaGreat
namespace Go.Proofs.YtdcfffhoajmafaaGreat
open Go.RowKit Go.Sort Go.Lib Go.Proofs.Tryz
theorem qfb (d:Array Int) (j:Nat):d.toList.getD j 0=d[j]!:=by
 by_cases h:j < d.size <;> simp [List.getD,h]
theorem zam (d:Array Int) (j:Nat):d.toList[j]! = d[j]!:=by
 by_cases h:j < d.size <;> simp [h]
theorem ContI (p:Int->Bool) (g:Nat) (lb:Array Value) (A:Option Addr) (c:Nat) (d:Array Int) (B:Nat) (w:World) (h:RdI_R B w A d) (t:d.size<=100000000) (l:∀ a w,(callFunc g a).run prog w=.ok (.enter g a) w) (r:PredAt prog g lb qdq p w) :
 Calls prog 162 #[.slice A d.size c,.func (.func g) #[] lb] w fun e w'=>e=.returned (.bool (d.toList.any p))/\∃ q,w'=w.drewN q:=by
 rcases vba d.size with f | f
 .have k:d=#[]:=var f
  subst k;exact (slices_ContainsFunc_empty (α:=Int) A c _ w).mono fun e w' ⟨n,s⟩=>⟨by rw [n];rfl,0,s⟩
 obtain ⟨b,i,rfl,_,m⟩:=h f
 have:=slices_ContainsFunc qdq p g lb l b i d.size c d.toList w r js jo (fun j o=>by rw [m j (by simpa using o),zam];rfl)
 rwa [show d.toList.take d.size=d.toList from vaz js] at this
theorem qja {w:World} {a:Nat} {e:TypeId} {v:Value} {d:Array Int} (h:w.ownsRow a e 1 v d.size (d.toList.map (Value.int .i64))) (q:v≠.slice none 0 0) :
 ∃ g b,v=.slice (some ⟨g,0,none⟩) d.size b/\a<=g/\g < w.heap.size/\Holds qdq w g 0 d:=by
 obtain ⟨_,⟨n,_⟩ | ⟨g,b,f,s,o,c,r,p,l,j⟩⟩:=h
 .exact absurd n q
 have i:g < w.heap.size:=by
  rcases val g w.heap.size with h | h
  .exact h
  rw [vbn h] at c;cases c
 refine ⟨g,b,s,o,i,fun t m=>?_⟩;have k:f.toList[t]?=(d.toList.map (Value.int .i64))[t]?:=by rw [<-j,vff jo]
 rw [vdc,vbh,vbh,vbe m] at k;refine ⟨?_,by simp [World.frozen?,c]⟩;rw [vae d t m];simp [World.cell?,c,k,qdq]
theorem CloneI (A:Option Addr) (c:Nat) (d:Array Int) (B:Nat) (w:World) (h:RdI_R B w A d) (E:d.size<=1000000000) :
 Calls prog 82 #[.slice A d.size c] w fun e w'=>∃ q r,e=.returned (.slice q d.size r)/\(0 < d.size->∃ g,q=some ⟨g,0,none⟩/\w.heap.size<=g/\g < w'.heap.size/\Holds qdq w' g 0 d)/\Below w.heap.size w w':=by
 rcases vba d.size with k | k
 .have t:d=#[]:=var k
  subst t;cases A with
  | none=>exact (slices_Clone_int_nil 0 c w).mono fun e w' ⟨n,D⟩=>⟨none,0,n,fun h=>absurd h jd,by rw [D];exact vag _ _⟩
  | some a =>
    refine (slices_Clone_int_zero a c w).mono ?_;rintro e w' ⟨v,n,f,o,m⟩;obtain ⟨_,⟨l,_⟩ | ⟨g,i,s,C,_⟩⟩:=f
    .exact absurd l o
    exact ⟨_,i,by rw [n,C];rfl,fun h=>absurd h jd,m⟩
 obtain ⟨b,p,rfl,_,y⟩:=h k;refine (slices_Clone_int b p d.size c d.toList w js jo (fun j z=>by rw [y j (by simpa using z),qfb])).mono ?_;rintro e w' ⟨v,rfl,f,o,m⟩;rw [show d.toList.take d.size=d.toList from vaz js] at f;obtain ⟨g,i,rfl,l,u,x⟩:=qja f o;exact ⟨_,i,rfl,fun _=>⟨g,rfl,l,u,x⟩,m⟩
def qdn (t:Int):Bool:=decide (t < 0\/1000000 < t)
theorem none1_any (t:Int) (w:World) :
 Calls prog 161 #[.int .i64 t] w fun e w'=>e=.returned (.bool (qdn t))/\w=w':=by
 go_in;go_wp2
 all_goals
  go_ret;refine ⟨qad ?_,rfl⟩;unfold qdn
  first | (rw [vbd,vbj,vbj];omega) | (symm;rw [vbj];omega) | (symm;rw [vat];omega)
theorem zan (w:World):PredAt prog 161 #[] qdq qdn w:=fun W x _ =>
 (none1_any x W).mono fun _ _ ⟨a,b⟩=>⟨a,0,b.symm⟩
def qas (d:Array Int) (n:Int):Int:=if qgj n=0\/(d.size:Int)≠n\/d.toList.any qdn=true then 2 else 0
theorem qfs (A:Option Addr) (c:Nat) (d:Array Int) (n:Int) (B:Nat) (w:World) (h:RdI_R B w A d) (o:d.size<=100000000) :
 Calls prog 79 #[.slice A d.size c,.int .i64 n] w fun e w'=>e=.returned (.int .i64 (qas d n))/\Below w.heap.size w w':=by
 have j:=fun W m=>hI (ContI qdn 161 #[] A c d B W m o (veb func161 jk rfl) (zan W))
 have a:=hI (j w h);clear j;by_cases f:qgj n=0
 .have b:Hid (qas d n=2):=by show _=_;unfold qas;rw [vam (Or.inl f)]
  clear a;go_in;go_wp2_with (go_at_call 160;refine (qhj _ _).mono ?_;rintro e w' ⟨rfl,rfl⟩);go_ret;exact ⟨qag b.out.symm,vag _ _⟩
 by_cases g:(d.size:Int)≠n
 .have b:Hid (qas d n=2):=by show _=_;unfold qas;rw [vam (Or.inr (Or.inl g))]
  have k:(qgj n == 0)=false:=by simpa using f
  have l:((d.size:Int) != n)=true:=by simpa using g
  clear f g a;go_in;go_wp2_with (go_at_call 160;refine (qhj _ _).mono ?_;rintro e w' ⟨rfl,rfl⟩);go_ret;exact ⟨qag b.out.symm,vag _ _⟩
 have k:(qgj n == 0)=false:=by simpa using f
 have l:((d.size:Int) != n)=false:=by simpa using g
 cases i:d.toList.any qdn
 .have b:Hid (qas d n=0):=by show _=_;unfold qas;rw [vao (by simp [f,i];simpa using g)]
  rw [i] at a;clear f g i;go_in;go_wp2_with (first | (go_at_call 160;refine (qhj _ _).mono ?_;rintro e w' ⟨rfl,rfl⟩) | (go_at_call 162;refine a.out.out.mono ?_;rintro e w' ⟨rfl,q,rfl⟩));go_ret;exact ⟨qag b.out.symm,qaj (vag _ _) _⟩
 have b:Hid (qas d n=2):=by show _=_;unfold qas;rw [vam (Or.inr (Or.inr i))]
 rw [i] at a;clear f g i;go_in;go_wp2_with (first | (go_at_call 160;refine (qhj _ _).mono ?_;rintro e w' ⟨rfl,rfl⟩) | (go_at_call 162;refine a.out.out.mono ?_;rintro e w' ⟨rfl,q,rfl⟩));go_ret;exact ⟨qag b.out.symm,qaj (vag _ _) _⟩
theorem qsm {α:Type} [Inhabited α] {a d2:Array α} (d:a.size=d2.size) (h:∀ j,j < a.size->a[j]! = d2[j]!):a=d2 :=
 Array.ext d fun t b c=>by have:=h t b;rwa [vae a t b,vae d2 t c] at this
theorem qgk (p q:Option Addr) (c1 c2:Nat) (a d2:Array Int) (u v:Nat) (w:World) (B:RdI_R u w p a) (C:RdI_R v w q d2) (L:d2.size<=100000000) :
 Calls prog 24 #[.slice p a.size c1,.slice q d2.size c2] w fun e w'=>e=.returned (.bool (decide (a=d2)))/\∃ n,w'=w.drewN n:=by
 by_cases l:a.size=d2.size
 .have D:((a.size:Int) != (d2.size:Int))=false:=by simp [l]
  have m:=hI l;have E:a.size<=d2.size:=by omega
  clear l;go_in;go_wp2
  go_loopw [5] (fun i wr=>∃ k n:Nat,k<=a.size/\i=.int .i64 k/\wr=w.drewN n/\∀ j,j < k->a[j]! = d2[j]!) (fun i _=>a.size - (intOf i).toNat)
  case atStart=>exact ⟨0,0,vaj _,rfl,rfl,fun j c=>absurd c jo⟩
  case round =>
   obtain ⟨k,n,K,rfl,rfl,c⟩:=hrel;have r:=hI c;clear c;by_cases g:k < a.size
   .obtain ⟨H,N,rfl,_,z⟩:=B.at_ g
    obtain ⟨I,O,rfl,_,A⟩:=C.at_ (i:=k) jo;have G:Hid (k < a.size):=g;generalize s:a[k]! = x at z;generalize t:d2[k]! = y at A;have d:=hI s;clear s;have f:=hI t;clear t;have M:(k:Int) < (a.size:Int):=by omega
    have F:(k:Int) < (d2.size:Int):=by omega
    by_cases b:x=y
    .subst b
     go_wp2;go_quiet (fail);go_wp2;go_roundw
     case rel=>exact ⟨k + 1,_,by omega,by go_num,rfl,fun j c=>by
      rcases val j k with h | h
      .exact r.out j h
      obtain rfl:j=k:=by omega
      rw [d.out,f.out]⟩
     case measure=>simp [intOf];omega
    have J:(x != y)=true:=by simp [b]
    have o:=hI b;clear b;go_wp2;go_quiet (fail);go_wp2;go_ret;exact ⟨qad (by symm;rw [vat];rintro rfl;exact o.out (by rw [<-d.out,<-f.out])),_,vcs _ _ _⟩
   go_wp2;go_ret;exact ⟨qad (by symm;rw [vbj];exact qsm m.out fun j c=>r.out j jo),n,rfl⟩
 have D:((a.size:Int) != (d2.size:Int))=true:=by simp;omega
 have m:=hI l;clear l;go_in;go_wp2;go_ret;exact ⟨qad (by symm;rw [vat];rintro rfl;exact m.out rfl),0,rfl⟩
def qcl (d:Array Int):Int:=Lib.minOf d.toList
theorem qsn (A:Option Addr) (c:Nat) (d:Array Int) (B:Nat) (w:World) (h:RdI_R B w A d) (p:d.size<=100000000) :
 Calls prog 84 #[.slice A d.size c] w fun e w'=>e=.returned (.int .i64 (qcl d))/\w=w':=by
 rcases vba d.size with a | a
 .have m:d=#[]:=var a
  subst m;go_in;go_wp2;go_ret;exact ⟨rfl,rfl⟩
 obtain ⟨b,g,rfl,_,l⟩:=h a;have f:=slices_Min_int b g d.size c d.toList w a js jo (fun j n=>by rw [l j (by simpa using n),qfb]);rw [show d.toList.take d.size=d.toList from vaz js] at f;have k:=hI f;clear f l;have o:((d.size:Int) == 0)=false:=vch.2 jo;have i:Hid (Lib.minOf d.toList=qcl d):=rfl;generalize Lib.minOf d.toList=v at k i;go_in;go_wp2_with (go_at_call 167;refine k.out.mono ?_;rintro e w' ⟨rfl,rfl⟩);go_ret;exact ⟨qag i.out,rfl⟩
theorem zao (A:Option Addr) (c:Nat) (d:Array Int) (B:Nat) (w:World) (h:RdI_R B w A d) (y:d.size<=100000000) :
 Calls prog 104 #[.slice A d.size c] w fun e w'=>e=.returned (.int .i64 (qcl d))/\w=w':=by
 rcases vba d.size with a | a
 .have r:d=#[]:=var a
  subst r;go_in;go_wp2;go_ret;exact ⟨rfl,rfl⟩
 have u:((d.size:Int) == 0)=false:=vch.2 jo;have D:(0:Int) < (d.size:Int):=by omega
 obtain ⟨b,t,rfl,_,j⟩:=h a;have o:=j 0 a;rw [vak] at o;have p:=hI j;clear j;have n:Hid (d[0]! = Lib.minOf (d.toList.take 1)):=by show _=_;rw [minOf_one,qfb]
 generalize d[0]! = E at o n;go_in;go_wp2
 go_loop [3,4] (fun v i=>∃ k:Nat,1<=k/\k<=d.size/\i=.int .i64 k/\v=.int .i64 (Lib.minOf (d.toList.take k))) (fun _ i=>d.size - (intOf i).toNat)
 case atStart=>exact ⟨1,vaa _,a,rfl,by rw [n.out]⟩
 case round =>
  obtain ⟨k,l,z,rfl,rfl⟩:=hrel;by_cases f:k < d.size
  .have q:=p.out k f
   have g:Hid (Lib.minOf (d.toList.take (k + 1))=min (Lib.minOf (d.toList.take k)) d[k]!):=by
    show _=_;rw [minOf_step _ _ l (by simpa using f),qfb]
   generalize d[k]! = x at q g;generalize Lib.minOf (d.toList.take k)=m at g;by_cases C:x < m
   .go_wp2
    go_round
    case rel=>exact ⟨k + 1,by omega,by omega,by go_num,by rw [g.out,Int.min_eq_right jo]⟩
    case measure=>simp [intOf];omega
   have s:m<=x:=by omega
   go_wp2;go_round
   case rel=>exact ⟨k + 1,by omega,by omega,by go_num,by rw [g.out,Int.min_eq_left jo]⟩
   case measure=>simp [intOf];omega
  obtain rfl:k=d.size:=by omega
  go_wp2;go_ret;exact ⟨qag (by unfold qcl;rw [vaz js]),rfl⟩
theorem qcc:(prog.info? 3).map (fun i=>(i.zero,i.size,i.bytes))=some (some (.int .i64 0),1,8):=by kernel_rfl
theorem qjf {w:World} {b:Nat} {e:TypeId} {v:Value} {l:List Int} (h:w.ownsRow b e 1 v l.length (l.map (Value.int .i64))) :
 ∃ A c,v=.slice A l.length c/\RdI_R w.heap.size w A l.toArray:=by
 rcases vba l.length with k | k
 .have:l=[]:=vcg k
  subst this;obtain ⟨_,⟨rfl,_⟩ | ⟨g,a,f,d,_⟩⟩:=h
  .exact ⟨none,0,rfl,RdI_R.none_⟩
  exact ⟨_,a,d,RdI_R.none_⟩
 have p:v≠.slice none 0 0:=by
  rintro rfl;obtain ⟨_,⟨_,q⟩ | ⟨g,a,f,d,_⟩⟩:=h
  .omega
  cases d
 have m:w.ownsRow b e 1 v l.toArray.size (l.toArray.toList.map (Value.int .i64)):=h;obtain ⟨g,a,d,_,j,n⟩:=qja m p;exact ⟨_,a,d,fun _=>⟨g,0,rfl,j,fun i o=>(n i o).1⟩⟩
theorem qir {w:World} {a:Nat} {e:TypeId} {v:Value} {l:List Int} {x:Int} (h:w.ownsRow a e 1 v (l.length + 1) (l.map (Value.int .i64) ++ [.int .i64 x])):w.ownsRow a e 1 v (l ++ [x]).length ((l ++ [x]).map (Value.int .i64)):=by
 simpa using h
theorem qnd {w:World} {a:Nat} {e:TypeId} {s n:Nat} {v:Value} {f:List Value} (h:w.ownsRow a e s v n f) (k:Nat) (b:v.ownBlock=some k):a<=k:=by
 obtain ⟨_,⟨rfl,_⟩ | ⟨g,c,d,rfl,i,_⟩⟩:=h
 .cases b
 have:g=k:=by simpa [Value.ownBlock] using b
 omega
theorem qdr (w:World) (x:Value) (e:TypeId) (j:Nat) (u:Value) (h:[x][j]?=some u):(w.alloc (.cells #[x] e)).cell? (Addr.add ⟨w.heap.size,0,none⟩ j)=some u:=by
 have b:j=0:=by
  rcases vba j with a | a
  .exact a
  obtain ⟨i,rfl⟩:∃ i,j=i + 1:=⟨j - 1,by omega⟩
  simp at h
 subst b
 have:x=u:=by simpa using h
 subst this;exact qau w _ _ 0
theorem qcr {w wr c:World} {o:Obj} {e:TypeId} {s n:Nat} {v:Value} {f:List Value} (b:Below w.heap.size w wr) (a:wr.ownsRow w.heap.size e s v n f) (d:(wr.alloc o).grownBy c v.ownBlock):Below w.heap.size w c :=
 (qab b o).grown d (qab b o).size (qnd a)
def setN (l:List Int):Nat->Nat
 | 0=>0
 | r + 1=>setN l r + if ((r:Int) + 1) ∈ l then 2 ^ r else 0
def qfm (d1 d2:Array Int) (i:Nat):Int:=if i < d1.size then (if i < d2.size then max d1[i]! d2[i]! else d1[i]!) else d2[i]!
def qcd (d1 d2:Array Int):Array Int:=((List.range (max d1.size d2.size)).map (qfm d1 d2)).toArray
theorem qcw (a d2:Array Int):(qcd a d2).size=max a.size d2.size:=by simp [qcd]
theorem qso (a d2:Array Int) (i:Nat) (h:i < max a.size d2.size):(qcd a d2)[i]! = qfm a d2 i:=by
 rw [vae _ i (by rw [qcw];exact h)];simp [qcd]
theorem qxp {w:World} {g:Nat} {a d2:Array Int} (c:g < w.heap.size) (h:∀ j,j < max a.size d2.size->w.cell? ⟨g,j,none⟩=some (.int .i64 (qfm a d2 j))):RdI_R w.heap.size w (some ⟨g,0,none⟩) (qcd a d2):=fun _ =>
 ⟨g,0,rfl,c,fun i b=>by rw [qcw] at b;rw [vcc,h i b,qso _ _ _ b]⟩
theorem qdg (w:World) (p q:Addr) (v:Value):(w.setCell p v).frozen? q=w.frozen? q:=by
 unfold World.frozen? World.setCell;simp only [vcw];by_cases h:p.block=q.block
 .rw [vam h,<-h]
  cases a:w.heap[p.block]? with
  | none=>rfl
  | some o=>cases o <;> rfl
 rw [vao h]
theorem qgd (w:World) (g k:Nat) (u v:Value) (h:w.cell? ⟨g,k,none⟩=some u):(w.setCell ⟨g,k,none⟩ v).cell? ⟨g,k,none⟩=some v:=by
 simp [go_sem,h]
theorem Merge_any (O P:Option Addr) (c1 c2:Nat) (d d2:Array Int) (w:World) (t:RdI_R w.heap.size w O d) (r:RdI_R w.heap.size w P d2) (S:d.size<=100000000) (T:d2.size<=100000000) :
 Calls prog 81 #[.slice O d.size c1,.slice P d2.size c2] w fun e w'=>∃ A c,e=.returned (.slice A (qcd d d2).size c)/\RdI_R w'.heap.size w' A (qcd d d2)/\Below w.heap.size w w':=by
 by_cases Q:d.size < d2.size
 .have E:(d.size:Int) < (d2.size:Int):=by omega
  have v:0 < d2.size:=by omega
  go_in;go_wp2_with fail;refine (CloneI _ _ d2 w.heap.size _ r jo).mono ?_;rintro e R ⟨N,F,rfl,h,n⟩;obtain ⟨g,rfl,J,z,C⟩:=h v;have G:=hI C;clear h C;go_wp2
  go_loopw [19] (fun i wr=>∃ k:Nat,k<=d.size/\i=.int .i64 k/\Below w.heap.size w wr/\g < wr.heap.size/\∀ j,j < d2.size->wr.cell? ⟨g,j,none⟩=some (.int .i64 (if j < k then qfm d d2 j else d2[j]!))/\wr.frozen? ⟨g,j,none⟩=false) (fun i _=>d.size - (intOf i).toNat)
  case atStart=>exact ⟨0,vaj _,rfl,n,z,fun j q=>by
   have:=G.out j q
   rw [vcc] at this
   exact ⟨by rw [this.1,vao jo];rfl,this.2⟩⟩
  case round =>
   obtain ⟨k,U,rfl,u,o,a⟩:=hrel;by_cases B:k < d.size
   .obtain ⟨b,M,rfl,_,D⟩:=(t.below u).at_ B
    obtain ⟨f,I⟩:=a k jo;rw [vao jo] at f;have s:Hid (qfm d d2 k=max d[k]! d2[k]!):=by show _=_;unfold qfm;rw [vam jo,vam jo]
    have l:=hI a;clear a;generalize d[k]! = x at D f s;generalize d2[k]! = y at D f s;have V:(k:Int) < (d.size:Int):=by omega
    have L:(k:Int) < (d2.size:Int):=by omega
    go_wp2;go_roundw
    case rel=>exact ⟨k + 1,by omega,by go_num,u.setCell (show w.heap.size<=g by omega) _,by simpa [World.setCell] using o,fun j q=>by
     obtain ⟨t,r⟩:=l.out j q;by_cases p:j=k
     .subst p
      exact ⟨by rw [vam jo,s.out];rw [Int.max_comm];exact qgd _ _ _ _ _ f,by rw [qdg];exact r⟩
     exact ⟨by rw [vcz _ _ _ _ (fun e=>p (by simpa using (congrArg Addr.off e).symm)),t];congr 2;by_cases m:j < k <;> simp [m] <;> (try omega),by rw [qdg];exact r⟩⟩
    case measure=>simp [intOf];omega
   obtain rfl:k=d.size:=by omega
   have l:=hI a;clear a;go_wp2;go_ret;refine ⟨some ⟨g,0,none⟩,F,by rw [qcw,show max d.size d2.size=d2.size by omega];rfl,qxp o fun j q=>?_,u⟩;rw [(l.out j jo).1];congr 2;by_cases m:j < d.size
   .rw [vam m]
   rw [vao m];unfold qfm;rw [vao m]
 have E:(d2.size:Int)<=(d.size:Int):=by omega
 have K:decide ((d.size:Int) < (d2.size:Int))=false:=by simp;omega
 rcases vba d.size with H | H
 .obtain rfl:d=#[]:=var H
  obtain rfl:d2=#[]:=var (by simp at Q;omega);clear Q H E K;go_in;go_wp2_with fail;refine (CloneI _ _ #[] w.heap.size _ t js).mono ?_;rintro e R ⟨N,F,rfl,_,n⟩;go_wp2;refine vdi 1 ?_;rw [vcy];go_wp2;go_ret;exact ⟨_,_,rfl,RdI_R.none_,n⟩
 have v:0 < d.size:=by omega
 go_in;go_wp2_with fail;refine (CloneI _ _ d w.heap.size _ t jo).mono ?_;rintro e R ⟨N,F,rfl,h,n⟩;obtain ⟨g,rfl,J,z,C⟩:=h v;have G:=hI C;clear h C;go_wp2
 go_loopw [19] (fun i wr=>∃ k:Nat,k<=d2.size/\i=.int .i64 k/\Below w.heap.size w wr/\g < wr.heap.size/\∀ j,j < d.size->wr.cell? ⟨g,j,none⟩=some (.int .i64 (if j < k then qfm d d2 j else d[j]!))/\wr.frozen? ⟨g,j,none⟩=false) (fun i _=>d2.size - (intOf i).toNat)
 case atStart=>exact ⟨0,vaj _,rfl,n,z,fun j q=>by
  have:=G.out j q
  rw [vcc] at this
  exact ⟨by rw [this.1,vao jo];rfl,this.2⟩⟩
 case round =>
  obtain ⟨k,U,rfl,u,o,a⟩:=hrel;by_cases B:k < d2.size
  .obtain ⟨b,M,rfl,_,D⟩:=(r.below u).at_ B
   obtain ⟨f,I⟩:=a k jo;rw [vao jo] at f;have s:Hid (qfm d d2 k=max d[k]! d2[k]!):=by show _=_;unfold qfm;rw [vam jo,vam jo]
   have l:=hI a;clear a;generalize d[k]! = x at D f s;generalize d2[k]! = y at D f s;have V:(k:Int) < (d2.size:Int):=by omega
   have L:(k:Int) < (d.size:Int):=by omega
   go_wp2;go_roundw
   case rel=>exact ⟨k + 1,by omega,by go_num,u.setCell (show w.heap.size<=g by omega) _,by simpa [World.setCell] using o,fun j q=>by
    obtain ⟨t,r⟩:=l.out j q;by_cases p:j=k
    .subst p
     exact ⟨by rw [vam jo,s.out];exact qgd _ _ _ _ _ f,by rw [qdg];exact r⟩
    exact ⟨by rw [vcz _ _ _ _ (fun e=>p (by simpa using (congrArg Addr.off e).symm)),t];congr 2;by_cases m:j < k <;> simp [m] <;> (try omega),by rw [qdg];exact r⟩⟩
   case measure=>simp [intOf];omega
  obtain rfl:k=d2.size:=by omega
  have l:=hI a;clear a;go_wp2;go_ret;refine ⟨some ⟨g,0,none⟩,F,by rw [qcw,show max d.size d2.size=d.size by omega];rfl,qxp o fun j q=>?_,u⟩;rw [(l.out j jo).1];congr 2;by_cases m:j < d2.size
  .rw [vam m]
  rw [vao m];unfold qfm;rw [vam jo,vao m]
def mrgL (d1 d2:Array Int):Nat->List Int
 | 0=>[]
 | k + 1=>mrgL d1 d2 k ++ [qfm d1 d2 k]
theorem mrgL_len (a d2:Array Int) (k:Nat):(mrgL a d2 k).length=k:=by
 induction k with
 | zero=>rfl
 | succ k ih=>simp [mrgL,ih]
theorem mrgL_eq (a d2:Array Int):∀ k,mrgL a d2 k=(List.range k).map (qfm a d2)
 | 0=>rfl
 | k + 1=>by rw [mrgL,mrgL_eq a d2 k,List.range_succ,vdn];rfl
theorem zap {d:Array Int} (h:∀ j,j < d.size->qdn d[j]! = false):d.toList.any qdn=false:=by
 rw [vdu];intro x b;obtain ⟨j,a,rfl⟩:=vbt.1 b
 have:=h j (by simpa using a)
 rw [vae d j (by simpa using a)] at this;simpa using this
theorem qve {d:Array Int} {j:Nat} (a:j < d.size) (h:qdn d[j]! = true):d.toList.any qdn=true:=by
 rw [vca];refine ⟨d[j]!,?_,h⟩;rw [vae d j a];simp
theorem qel (A:Option Addr) (c:Nat) (d:Array Int) (n:Int) (B:Nat) (w:World) (h:RdI_R B w A d) (G:d.size<=100000000) :
 Calls prog 101 #[.slice A d.size c,.int .i64 n] w fun e w'=>e=.returned (.int .i64 (qas d n))/\w=w':=by
 by_cases g:qgj n=0
 .have q:Hid (qas d n=2):=by show _=_;unfold qas;rw [vam (Or.inl g)]
  go_in;go_wp2_with (go_at_call 186;refine (qnc _ _).mono ?_;rintro e w' ⟨rfl,rfl⟩);go_ret;exact ⟨qag q.out.symm,rfl⟩
 by_cases p:(d.size:Int)≠n
 .have q:Hid (qas d n=2):=by show _=_;unfold qas;rw [vam (Or.inr (Or.inl p))]
  have C:(qgj n == 0)=false:=by simpa using g
  have F:((d.size:Int) != n)=true:=by simpa using p
  clear g p;go_in;go_wp2_with (go_at_call 186;refine (qnc _ _).mono ?_;rintro e w' ⟨rfl,rfl⟩);go_ret;exact ⟨qag q.out.symm,rfl⟩
 obtain rfl:(d.size:Int)=n:=by omega
 have C:(qgj (d.size:Int) == 0)=false:=by simpa using g
 have r:Hid ((∀ j,j < d.size->qdn d[j]! = false)->qas d d.size=0):=fun a=>by
  unfold qas;rw [vao];simp [g,zap a]
 have m:Hid (∀ j,j < d.size->qdn d[j]! = true->qas d d.size=2):=fun j a l=>by
  unfold qas;rw [vam];exact Or.inr (Or.inr (qve a l))
 clear g p;go_in;go_wp2_with (go_at_call 186;refine (qnc _ _).mono ?_;rintro e w' ⟨rfl,rfl⟩)
 go_loop [5] (fun i=>∃ k:Nat,k<=d.size/\i=.int .i64 k/\∀ j,j < k->qdn d[j]! = false) (fun i=>d.size - (intOf i).toNat)
 case atStart=>exact ⟨0,vaj _,rfl,fun j a=>absurd a jo⟩
 case round =>
  obtain ⟨k,H,rfl,a⟩:=hrel;have y:=hI a;clear a;by_cases f:k < d.size
  .obtain ⟨b,E,rfl,_,D⟩:=h.at_ f
   generalize z:d[k]! = x at D;have s:=hI z;clear z;by_cases l:x < 0\/1000000 < x
   .have o:Hid (qdn x=true):=by show _=_;unfold qdn;simpa using l
    by_cases t:x < 0
    .go_wp2
     all_goals (go_ret;exact ⟨qag (m.out k f (by rw [s.out];exact o.out)).symm,rfl⟩)
    have u:1000000 < x:=by omega
    have v:0<=x:=by omega
    clear l t;go_wp2
    all_goals (go_ret;exact ⟨qag (m.out k f (by rw [s.out];exact o.out)).symm,rfl⟩)
   have o:Hid (qdn x=false):=by show _=_;unfold qdn;simpa using l
   have u:decide (1000000 < x)=false:=by simp;omega
   have v:decide (x < 0)=false:=by simp;omega
   clear l;go_wp2;go_round
   case rel=>exact ⟨k + 1,by omega,by go_num,fun j a=>by
    rcases val j k with h | h
    .exact y.out j h
    obtain rfl:j=k:=by omega
    rw [s.out];exact o.out⟩
   case measure=>simp [intOf];omega
  go_wp2
  all_goals (go_ret;exact ⟨qag (r.out fun j a=>y.out j jo).symm,rfl⟩)
end Go.Proofs.YtdcfffhoajmafaaGreat
