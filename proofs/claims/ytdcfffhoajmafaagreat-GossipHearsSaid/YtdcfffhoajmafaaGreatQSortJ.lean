/- Texts that the law leans on. -/
import Derived.Test.YtdcfffhoajmafaaGreatQSortH
set_option maxRecDepth 100000
set_option maxHeartbeats 1000000
namespace Go.Proofs.YtdcfffhoajmafaaGreat
open Go.RowKit Go.Sort Go.Lib Go.Proofs.Tryz
theorem qar (x:Int×Int):(qae x).length=2:=rfl
theorem qbd (x:Int×Int):∀ u ∈ qae x,u.oneCell'=true:=by
 intro u a;simp only [qae,vcb,List.not_mem_nil,or_false] at a;rcases a with rfl | rfl <;> rfl
def srtA (d:Array (Int×Int)):Array (Int×Int):=(d.toList.mergeSort (fun x y=>!qaf y x)).toArray
theorem lessA_eq {x y:Int×Int} (a:qaf x y=false) (b:qaf y x=false):x=y:=by
 obtain ⟨c,d⟩:=x;obtain ⟨e,f⟩:=y;unfold qaf at *;simp at *;omega
theorem srtA_of {d a:Array (Int×Int)} (e:PermIn 0 d.size d a) (f:SortedIn qaf 0 d.size a):a=srtA d:=by
 have:=sorted_unique_holds (lt:=qaf) swoL (fun x y b c=>lessA_eq b c) d a e f
 unfold srtA;rw [<-this]
theorem qid (d:Array (Int×Int)):(srtA d).size=d.size:=by
 unfold srtA;simp [List.length_mergeSort]
theorem qst:∀ f n:Nat,bitLenAux f n<=f
 | 0,_=>vaa _
 | f + 1,n=>by
   unfold bitLenAux
   have:=qst f (n / 2)
   split <;> omega
theorem bitLen_64 (n:Nat):Lib.bitLen n<=64:=qst 64 n
theorem srtA_nil:srtA #[]=#[]:=var (by rw [qid];rfl)
theorem ins_nil (a:Value) (w:World) :
 Calls prog 274 #[.slice none 0 0,.int .i64 0,.int .i64 0,a] w fun e b=>e=.returned (.tuple #[])/\b=w:=by
 go_in;go_wp2;refine vdi 1 ?_;rw [vcy];go_wp2;go_end0;exact ⟨rfl,rfl⟩
theorem pdq_nil (a:Value) (l:Int) (w:World) :
 Calls prog 260 #[.slice none 0 0,.int .i64 0,.int .i64 0,.int .i64 l,a] w fun e b=>e=.returned (.tuple #[])/\b=w:=by
 go_in;go_wp2;refine vdi 1 ?_;rw [vcy];go_wp2_with fail;refine (ins_nil a _).mono ?_;rintro e b ⟨rfl,rfl⟩;go_wp2;refine vau (qdb rfl _ _ _) rfl ?_;exact ⟨rfl,rfl⟩
theorem qsu (b:Value) (w:World) :
 Calls prog 216 #[.slice none 0 0,b] w fun e a=>e=.returned (.tuple #[])/\a=w:=by
 go_in;go_wp2_with fail;refine (bits_Len _ _ jo jo).mono ?_;rintro e a ⟨rfl,rfl⟩;go_wp2_with fail;refine (pdq_nil b _ _).mono ?_;rintro e a ⟨rfl,rfl⟩;go_wp2;go_end0;exact ⟨rfl,rfl⟩
theorem qsv (a off b:Nat) (d:Array (Int×Int)) (w:World) (h:HoldsK qae 2 w a off d) (c:a < w.heap.size) (f:d.size<=1000000) :
 Calls prog 216 #[.slice (some ⟨a,off,none⟩) d.size b,.func (.func 215) #[.agg #[]] #[]] w fun e g =>
  e=.returned (.tuple #[])/\Srt w a off (srtA d) g:=by
 have i:=hI (fun (l:Nat) (k:l<=64)=>pdq_any d.size a off b 0 d.size d.size l d w (vaa _) h c rfl (vaj _) (vaa _) f k (Or.inl rfl));clear h;go_in;go_wp2_with fail;refine (bits_Len _ _ jo jo).mono ?_;rintro e g ⟨rfl,rfl⟩;go_wp2_with fail;refine (i.out _ ?_).mono ?_
 .exact bitLen_64 _
 rintro e g ⟨rfl,o,m,n,j⟩;obtain rfl:=srtA_of m n;go_wp2;go_end0;exact ⟨rfl,j⟩
theorem qhm (A:Option Addr) (c:Nat) (d:Array (Int×Int)) (w:World) (h:RdK qae 2 w.heap.size w A d) (F:d.size<=1000000) :
 Calls prog 65 #[.slice A d.size c] w fun e s=>∃ v,e=.returned v/\s.ownsRow w.heap.size 29 2 v d.size (flatK qae 2 d).toList/\Below w.heap.size w s:=by
 obtain ⟨z,m,o,p,q⟩:=vbo qfq;cases A with
 | none =>
   have g:d.size=0:=by
    rcases vba d.size with g | g
    .exact g
    obtain ⟨b,B,e,_⟩:=h g;cases e
   obtain rfl:d=#[]:=var g;exact (AnyE.slices_Clone_nil laysClone 0 c w).mono fun e s ⟨u,y⟩=>⟨_,u,qbk _ _ _ _ _,by rw [y];exact vag _ _⟩
 | some ad =>
   have t:=hI h;clear h;have C:∀ (w:World) (a:Option Addr) (n c r i:Nat),(binOp .eql 23 (.slice a n c) (.slice none r i)).run prog w=.ok (.bool a.isNone) w:=fun w a n c r i=>veq w _ _ a n c r i underlying23
   go_in;go_wp2_with (at_builtin;refine qcq qbd qar jd rfl (.tmp 5) (.tmp 6) 23 rfl w.heap.size 29 z (.agg #[.int .i64 0,.int .i64 0]) 16 underlying23 m o p q rfl _ #[] rfl (qba w 29 qae 2) w.heap.size (some ad) c d rfl (t.out.alloc (vaa _) _) (fun h=>by cases h) jso jd js ?_;intro D E f l _);go_ret;have j:Below w.heap.size w E:=(bel1 w _).grown l js (fun k x=>((qba w 29 qae 2).lt k x).1);exact ⟨D,rfl,by simpa using f,j⟩
theorem Sort_any (A:Option Addr) (c:Nat) (d:Array (Int×Int)) (w:World) (h:RdK qae 2 w.heap.size w A d) (s:d.size<=1000000) :
 Calls prog 154 #[.slice A d.size c] w fun e p=>∃ j q,e=.returned (.slice j d.size q)/\RdK qae 2 p.heap.size p j (srtA d)/\(j=none->q=0)/\(∀ g o,j=some ⟨g,o,none⟩->w.heap.size<=g)/\Below w.heap.size w p:=by
 have u:=hI (qhm A c d w h s);clear h;go_in;go_wp2_with fail;refine u.out.mono ?_;rintro e D ⟨v,rfl,a,l⟩;by_cases n:v=.slice none 0 0
 .subst n
  have k:d.size=0:=by
   obtain ⟨_,⟨_,k⟩ | ⟨g,b,y,C,_⟩⟩:=a
   .exact k
   cases C
  clear a;obtain rfl:d=#[]:=var k;go_wp2_with fail;refine (qsu _ _).mono ?_;rintro e E ⟨rfl,rfl⟩;go_wp2;go_ret;exact ⟨none,0,rfl,(by rw [srtA_nil];exact fun h=>absurd h jd),fun _=>rfl,(fun _ _ e=>by cases e),l⟩
 obtain ⟨g,b,rfl,z,m,r⟩:=qbl a n;clear a n;have x:=hI (qsv g 0 b d D r m s);clear r;go_wp2_with fail;refine x.out.mono ?_;rintro e E ⟨rfl,f⟩;go_wp2;go_ret;refine ⟨some ⟨g,0,none⟩,b,rfl,RdK.of_holds f.holds f.lt1,(fun e=>by cases e),?_,?_⟩
 .intro F t e
  injection e with e
  injection e with e1
  omega
 exact l.trans ⟨f.os,f.tape,f.output,f.size,fun i B=>f.block i (vad B l.size) jo⟩
