/- Texts that the law leans on. -/
import Derived.Test.YtdcfffhoajmafaaGreatQDelN
import Derived.Test.YtdcfffhoajmafaaGreatQSortJ
set_option maxRecDepth 100000
set_option maxHeartbeats 8000000
namespace Go.Proofs.YtdcfffhoajmafaaGreat
open Go.RowKit Go.Sort Go.Lib Go.Proofs.Tryz
def qen (x:Int):List Value:=[.int .i64 x]
theorem qpf (x:Int):(qen x).length=1:=rfl
theorem rdJ_T {w:World} {B:Nat} {A:Option Addr} {d:Array Int} (h:RdK qen 1 B w A d):RdI_R B w A d:=fun c=>by
 obtain ⟨b,a,e,g,f⟩:=h c;refine ⟨b,a,e,g,fun t i=>?_⟩;rw [f t jo,get_flatK _ _ _ _ jo];simp [qen,Nat.mod_one]
def fmK {α:Type} (p:EN->Bool) (f:EN->α) (d:Array EN) (k:Nat):Array α:=(((d.toList.take k).filter p).map f).toArray
theorem fmK_succ {α:Type} {p:EN->Bool} {f:EN->α} {d:Array EN} {k:Nat} (a:k < d.size):fmK p f d (k + 1)=if p d[k]! = true then (fmK p f d k).push (f d[k]!) else fmK p f d k:=by
 unfold fmK;rw [vdb,vbl (by simpa using a),vdq];rw [vae d k a];have e:d.toList[k]'(by simpa using a)=d[k]:=by simp
 rw [e];cases b:p d[k] <;> simp [b]
theorem fmK_size {α:Type} (p:EN->Bool) (f:EN->α) (d:Array EN) (k:Nat):(fmK p f d k).size<=k:=by
 unfold fmK
 have:=vcf p (d.toList.take k)
 have a:(d.toList.take k).length<=k:=by rw [List.length_take];omega
 simpa using vax this a
def fmT {α:Type} (p:EN->Bool) (f:EN->α) (d:Array EN):Array α:=((d.toList.filter p).map f).toArray
theorem fmK_all {α:Type} {p:EN->Bool} {f:EN->α} {d:Array EN}:fmK p f d d.size=fmT p f d:=by
 unfold fmK fmT;rw [vaz js]
theorem fmT_size {α:Type} (p:EN->Bool) (f:EN->α) (d:Array EN):(fmT p f d).size<=d.size:=by rw [<-fmK_all];exact fmK_size p f d d.size
theorem tid_any (x:EN) (w:World):Calls prog 224 #[.agg (encE x).toArray] w fun e b=>e=.returned (.int .i64 x.id)/\Below w.heap.size w b:=by
 have a:Hid (∀ o,Below w.heap.size w (w.alloc o)):=hI (fun o=>bel1 w o);simp only [encE];go_in;go_wp2;go_ret;exact ⟨rfl,a.out _⟩
theorem setl1_any (x:EN) (w:World):Calls prog 223 #[.agg (encE x).toArray] w fun e b=>e=.returned (.bool (qkb x.ph))/\Below w.heap.size w b:=by
 have a:Hid (∀ o,Below w.heap.size w (w.alloc o)):=hI (fun o=>bel1 w o);simp only [encE];go_in;go_wp2_with (go_at_call 144;refine (qip _ _).mono ?_;rintro _ _ ⟨rfl,rfl⟩);go_ret;exact ⟨rfl,a.out _⟩
theorem zbn:(prog.info? 3).map (fun i=>(i.zero,i.size,i.bytes))=some (some (.int .i64 0),1,8):=by kernel_rfl
theorem thoseI (p:EN->Bool) (g:Nat) (lb:Array Value) (eg:∀ t w,(callFunc g t).run prog w=.ok (.enter g t) w) (A:Option Addr) (c:Nat) (d:Array EN) (w:World) (h:RdK encE 10 w.heap.size w A d) (hs:d.size<=1000)
 (hp:∀ W x,Below w.heap.size w W->Calls prog g (#[.agg (encE x).toArray] ++ lb) W fun e D=>e=.returned (.bool (p x))/\Below W.heap.size W D) :
 Calls prog 222 #[.slice A d.size c,.func (.func g) #[] lb,.func (.func 224) #[] #[]] w fun e D=>(∃ E J,e=.returned (.slice E (fmT p EN.id d).size J)/\RdK qen 1 D.heap.size D E (fmT p EN.id d))/\Below w.heap.size w D:=by
 obtain ⟨i0,K,N,O,P⟩:=vbo zbn;have HR:=hI h;have HP:=hI hp;clear h hp;go_in;go_wp2
 go_loopw [7,12] (fun m i wr=>∃ (k:Nat) (a:Array (Int)),i=.int .i64 k/\k<=d.size/\a.size<=k/\Hid (a=fmK p EN.id d k)/\wr.ownsRow w.heap.size 3 1 m a.size (flatK qen 1 a).toList/\Hid (Below w.heap.size w wr)) (fun _ i _=>d.size - (intOf i).toNat)
 case atStart=>exact ⟨0,#[],rfl,vaj _,vaa _,rfl,qbk _ _ _ _ _,hI (vag _ _)⟩
 case round =>
  obtain ⟨k,a,rfl,hk,a2,Q,o,G⟩:=hrel;obtain ⟨Am,cm,rfl,_,_⟩:=qaq o;by_cases M:k < d.size
  .have kz:(k:Int) < (d.size:Int):=by omega
   obtain ⟨b,a3,rfl,a1,f⟩:=(HR.out.below G.out).at_ (i:=k) jo;have R:=f 0 jo;have S:=f 1 jo;have T:=f 2 jo;have U:=f 3 jo;have V:=f 4 jo;have X:=f 5 jo;have Y:=f 6 jo;have Z:=f 7 jo;have e8:=f 8 jo;have e9:=f 9 jo;have C:=hI (fun W (hb:Below w.heap.size w W)=>HP.out W d[k]! hb);have I:=hI (fun W=>tid_any d[k]! W);have F:Hid (fmK p EN.id d (k + 1)=if p d[k]! = true then a.push (EN.id d[k]!) else a):=by
    show _=_;rw [fmK_succ M,Q.out]
   obtain ⟨x,hx⟩:∃ x,d[k]! = x:=⟨_,rfl⟩
   rw [hx] at R S T U V X Y Z e8 e9 C I F;clear f hx;simp only [vak,encE,vac,vaf] at R S T U V X Y Z e8 e9 C I;obtain ⟨q,hq⟩:∃ q,p x=q:=⟨_,rfl⟩
   rw [hq] at C F;clear hq;have HX:=hI (BoxW.init wr #[.int .i64 x.id,.int .i64 x.ph,.int .i64 x.qu,.int .i64 x.t,.int .i64 x.bal,.int .i64 x.abal,.int .i64 x.seen,.int .i64 x.age,.string x.pay,.slice x.A x.z.size x.c] 58);have s:=hI (qab G.out (.cells #[.int .i64 x.id,.int .i64 x.ph,.int .i64 x.qu,.int .i64 x.t,.int .i64 x.bal,.int .i64 x.abal,.int .i64 x.seen,.int .i64 x.age,.string x.pay,.slice x.A x.z.size x.c] 58));cases q
   .have H:Hid (a=fmK p EN.id d (k + 1)):=by show _=_;rw [F.out];rfl
    go_wp2_with fail;refine (C.out _ s.out).mono ?_;rintro _ w2 ⟨rfl,l⟩;have n:=qjm (qjm o (bel1 wr _)) l;have u:=hI (qaa s.out l);clear l;go_wp2;go_roundw
    case rel=>exact ⟨k + 1,a,by go_num,by omega,by omega,H,n,u⟩
    case measure=>simp [intOf];omega
   have H:Hid (a.push (EN.id x)=fmK p EN.id d (k + 1)):=by show _=_;rw [F.out];rfl
   go_wp2_with fail;refine (C.out _ s.out).mono ?_;rintro _ w2 ⟨rfl,l⟩;have n:=qjm (qjm o (bel1 wr _)) l;have u:=hI (qaa s.out l);have j:=hI (HX.out.next l);have y0:=j.out.at_ 0;have y1:=j.out.at_ 1;have y2:=j.out.at_ 2;have y3:=j.out.at_ 3;have y4:=j.out.at_ 4;have y5:=j.out.at_ 5;have y6:=j.out.at_ 6;have y7:=j.out.at_ 7;have y8:=j.out.at_ 8;have y9:=j.out.at_ 9;clear l;go_wp2_with fail;refine (I.out _).mono ?_;rintro _ w3 ⟨rfl,y⟩;have r:=qjm n y;have v:=hI (qaa u.out y);clear y y0 y1 y2 y3 y4 y5 y6 y7 y8 y9;go_wp2_with (at_builtin;refine vay _ rfl _ _ 26 rfl w.heap.size 3 i0 (.int .i64 0) 1 8 underlying26 K N O P rfl jd _ _ _ rfl (r.alloc _) ⟨w3.heap.size,0,none⟩ 1 1 [.int .i64 x.id] rfl rfl (newL w3 _ _) jV jl jo (by have:=v.out.size;simp;omega) ?_;intro v' w4 B z _);exact ⟨⟨k + 1,a.push (EN.id x),by go_num,by omega,by simp;omega,H,(by rw [vbk,qax qpf];exact B),hI (qma v.out v.out.size r z)⟩,by simp [intOf];omega⟩
  have a0:decide ((k:Int) < (d.size:Int))=false:=by simp;omega
  have L:k=d.size:=by omega
  have HE:Hid (a=fmT p EN.id d):=by show _=_;rw [Q.out,L,fmK_all]
  go_wp2;go_ret;obtain ⟨E,J,e',hr,_⟩:=qaq o;have he:=HE.out;subst he;exact ⟨⟨E,J,congrArg Ending.returned e',hr⟩,G.out⟩
theorem tSetl_any (A:Option Addr) (c:Nat) (d:Array EN) (w:World) (h:RdK encE 10 w.heap.size w A d) (m:d.size<=1000) :
 Calls prog 170 #[.slice A d.size c] w fun e f=>(∃ a b,e=.returned (.slice a (fmT (fun x=>qkb x.ph) EN.id d).size b)/\RdK qen 1 f.heap.size f a (fmT (fun x=>qkb x.ph) EN.id d))/\Below w.heap.size w f:=by
 have l:=hI (thoseI (fun x=>qkb x.ph) 223 #[] (veb func223 jk rfl) A c d w h m (fun W x _=>setl1_any x W));clear h;go_in;go_wp2_with fail;refine l.out.mono ?_;rintro _ n ⟨⟨a,b,rfl,i⟩,g⟩;have k:=hI i;have j:=hI g;clear i g;go_wp2;go_ret;exact ⟨⟨a,b,rfl,k.out⟩,j.out⟩
