/- Texts that the law leans on. -/
import Derived.Shelf.SlSortCmp.NoneTotal
import Derived.Test.YtdcfffhoajmafaaGreatQOwnK
import Derived.Test.YtdcfffhoajmafaaGreatQIdentB
set_option maxRecDepth 100000
set_option maxHeartbeats 2000000
namespace Go.Proofs.YtdcfffhoajmafaaGreat
open Go.RowKit Go.Sort Go.Lib Go.Proofs.Tryz
theorem qbj (x:Int×Int):(encR x).length=2:=rfl
theorem qik (x:Int×Int):∀ u ∈ encR x,u.oneCell'=true:=by
 intro u a;simp only [encR,vcb,List.not_mem_nil,or_false] at a;rcases a with rfl | rfl <;> rfl
theorem qda:(prog.info? 124).map (fun i=>(i.zero,i.size,i.bytes))=some (some (.agg #[.int .i64 0,.int .i64 0]),2,16):=by kernel_rfl
theorem qxa (A:Option Addr) (c:Nat) (d:Array (Int×Int)) (w:World) (h:RdK encR 2 w.heap.size w A d) (D:d.size<=1000000) :
 Calls prog 155 #[.slice A d.size c] w fun e s=>∃ v,e=.returned v/\s.ownsRow w.heap.size 124 2 v d.size (flatK encR 2 d).toList/\Below w.heap.size w s:=by
 obtain ⟨z,m,o,p,q⟩:=vbo qda;cases A with
 | none =>
   have g:d.size=0:=by
    rcases vba d.size with g | g
    .exact g
    obtain ⟨b,off,e,_⟩:=h g;cases e
   obtain rfl:d=#[]:=var g;exact (AnyE.slices_Clone_nil laysCloneR 0 c w).mono fun e s ⟨u,y⟩=>⟨_,u,qbk _ _ _ _ _,by rw [y];exact vag _ _⟩
 | some ad =>
   have t:=hI h;clear h;have B:∀ (w:World) (a:Option Addr) (n c r i:Nat),(binOp .eql 64 (.slice a n c) (.slice none r i)).run prog w=.ok (.bool a.isNone) w:=fun w a n c r i=>veq w _ _ a n c r i underlying64
   go_in;go_wp2_with (at_builtin;refine qcq qik qbj jd rfl (.tmp 5) (.tmp 6) 64 rfl w.heap.size 124 z (.agg #[.int .i64 0,.int .i64 0]) 16 underlying64 m o p q rfl _ #[] rfl (qba w 124 encR 2) w.heap.size (some ad) c d rfl (t.out.alloc (vaa _) _) (fun h=>by cases h) jso jd js ?_;intro C w1 f l _);go_ret;have j:Below w.heap.size w w1:=(bel1 w _).grown l js (fun k x=>((qba w 124 encR 2).lt k x).1);exact ⟨C,rfl,by simpa using f,j⟩
def cmpR (x y:Int×Int):Int:=Lib.compareInt x.1 y.1
theorem qqe (x y:Int×Int):ltOf cmpR x y=decide (x.1 < y.1):=by
 unfold ltOf cmpR Lib.compareInt;by_cases a:x.1 < y.1
 .simp [a]
 by_cases b:y.1 < x.1 <;> simp [a,b]
theorem swoR:SWO (ltOf cmpR) where
 irrefl x:=by rw [qqe];simp
 trans x y z h1 h2:=by rw [qqe] at *;simp at *;omega
 ntrans x y z h1 h2:=by rw [qqe] at *;simp at *;omega
theorem all1_any (x y:Int×Int) (w:World) :
 Calls prog 263 #[.agg #[.int .i64 x.1,.int .i64 x.2],.agg #[.int .i64 y.1,.int .i64 y.2]] w fun e g=>e=.returned (.int .i64 (cmpR x y))/\∃ q b,g=grow (w.drewN q) b:=by
 have a:=fun W=>cmp_Compare_int x.1 y.1 W
 have d:=hI a;clear a;have f:Hid (Lib.compareInt x.1 y.1=cmpR x y):=rfl;generalize Lib.compareInt x.1 y.1=c at d f;go_in;go_wp2_with (go_at_call 253;refine (d.out _).mono ?_;rintro e g ⟨rfl,rfl⟩);go_ret;exact ⟨qag f.out,0,_,by rw [alloc_eq_grow,alloc_eq_grow,grow_grow];rfl⟩
theorem cmpLaysR (blk:Nat) (a:Nat) (w:World):CmpLays prog 263 #[] encR 2 cmpR blk 0 a w:=by
 intro m c b _ x y;exact all1_any x y _
theorem qll {w1:World} {g:Nat} (w:World) (c:Below w.heap.size w w1) (f:w.heap.size<=g) (n:Nat) (d:Array (Int×Int)) (b:Array Obj):Below w.heap.size w (sortWorldK encR 2 w1 g 0 n d b):=by
 refine c.trans ⟨rfl,rfl,rfl,size_sortWorldK_c encR 2 w1 g 0 n d b,fun i e=>?_⟩;have a:i < w1.heap.size:=vad e c.size;show ((putRowK encR 2 (Sort.ahead w1 n) g 0 d).heap ++ b)[i]?=_;rw [vea (by rw [size_putRowK];exact a)];show ((Sort.ahead w1 n).heap.modify g _)[i]?=_;rw [vcw,vao jo];rfl
def SortR (d d':Array (Int×Int)):Prop:=d'.size=d.size/\(∀ x,x ∈ d'↔x ∈ d)/\∀ i j,i < j->j < d'.size->d'[i]!.1<=d'[j]!.1
theorem all_any (A:Option Addr) (c:Nat) (d:Array (Int×Int)) (w:World) (h:RdK encR 2 w.heap.size w A d) (V:d.size<=1000000) :
 Calls prog 217 #[.slice A d.size c] w fun e r=>∃ l y Q b,e=.returned (.func (.func 264) #[] #[.pointer (some ⟨b,0,none⟩)])/\SortR d l/\w.heap.size<=b/\b < r.heap.size/\r.cell? ⟨b,0,none⟩=some (.slice y l.size Q)/\RdK encR 2 r.heap.size r y l/\(∀ g off,y=some ⟨g,off,none⟩->w.heap.size<=g/\g < r.heap.size)/\Below w.heap.size w r:=by
 have L:=qxa A c d w h V;have O:=hI L;clear L h;go_in;go_wp2_with fail;refine O.out.mono ?_;rintro e w1 ⟨v,rfl,k,o⟩;by_cases H:v=.slice none 0 0
 .subst H
  have u:d.size=0:=by
   obtain ⟨_,⟨_,u⟩ | ⟨g,f,R,hv,_⟩⟩:=k
   .exact u
   cases hv
  clear k;have s:=fun W=>AnyF.slices_SortFunc_none laysSortR none 0 (.func (.func 263) #[] #[]) W
  have z:=hI s;clear s;go_wp2_with fail;refine (z.out _).mono ?_;rintro e w2 ⟨rfl,rfl⟩;go_wp2;go_ret;have hz:=o.size;refine ⟨#[],none,0,w1.heap.size,rfl,⟨u.symm,?_,?_⟩,by omega,by simp,qau w1 _ _ 0,fun h=>absurd h jd,(fun _ _ e=>by cases e),qab o _⟩
  .have S:d=#[]:=var u
   intro x;rw [S]
  intro i j _ G;exact absurd G js
 obtain ⟨g,f,rfl,E,F,M⟩:=qbl k H;clear k H;have p:HoldsK encR 2 (w1.alloc (.cells #[.slice (some ⟨g,0,none⟩) d.size f] 64)) g 0 d:=fun t Z=>by
  have:=M t Z
  exact ⟨(vbq w1 _ ⟨g,0 + t,none⟩ F).trans this.1,(World.frozen?_alloc_old w1 _ ⟨g,0 + t,none⟩ (by show g≠w1.heap.size;omega)).trans this.2⟩
 have s:=AnyQ.slices_SortFunc laysSortR 2 isAgg124 sizeOf124 encR qbj qik cmpR swoR 263 #[] g 0 f d _ (veb func263 jk rfl) (cmpLaysR g d.size _) p jso jo;have z:=hI s;have P:=hI p;clear s M p;go_wp2_with fail;refine z.out.mono ?_;rintro e w2 ⟨rfl,l,n,J,q,Y,m⟩;have hz:=o.size;have I:g < (w1.alloc (.cells #[.slice (some ⟨g,0,none⟩) d.size f] 64)).heap.size:=by simp;omega
 have D:HoldsK encR 2 w2 g 0 l:=by rw [m];exact holdsK_sortWorldK_c encR 2 _ g 0 d l n J P.out I q.1
 have B:Below w.heap.size w w2:=by rw [m];exact qll w (qab o _) E n l J
 have U:w1.heap.size + 1<=w2.heap.size:=by rw [m];have:=size_sortWorldK_c encR 2 (w1.alloc (.cells #[.slice (some ⟨g,0,none⟩) d.size f] 64)) g 0 n l J;simpa using this
 have C:w2.cell? ⟨w1.heap.size,0,none⟩=some (.slice (some ⟨g,0,none⟩) d.size f):=by
  rw [m];unfold sortWorldK;rw [cell?_grow _ _ _ (by rw [size_putRowK];simp [Sort.ahead]),cell?_putRowK_other _ _ _ _ _ _ _ (by show w1.heap.size≠g;omega)];exact qau w1 _ _ 0
 clear m;go_wp2;go_ret;refine ⟨l,some ⟨g,0,none⟩,f,w1.heap.size,rfl,⟨q.1,?_,?_⟩,by omega,by omega,by rw [q.1];exact C,RdK.of_holds D jo,(fun g' N e=>by injection e with e;injection e with K _;omega),B⟩
 .intro x
  have K:l.extract 0 d.size=l:=by rw [<-q.1];simp
  have T:d.extract 0 d.size=d:=by simp
  have:=q.2.2
  rw [K,T] at this
  have:=this.mem_iff (a:=x)
  simpa using this
 intro i j X G
 have:=Y i j (vaj _) X (by rw [<-q.1];exact G)
 rw [qqe] at this;simpa using this
structure Srt (w:World) (blk off:Nat) (d:Array (Int×Int)) (w':World):Prop where
 holds:HoldsK qae 2 w' blk off d
 lt:blk < w.heap.size
 size:w.heap.size<=w'.heap.size
 block:∀ g,g < w.heap.size->g≠blk->w'.heap[g]?=w.heap[g]?
 os:w'.os=w.os
 tape:w'.tape=w.tape
 output:w'.output=w.output
section
variable {w w1 w2:World} {blk off:Nat} {d d2:Array (Int×Int)}
theorem Srt.refl (h:HoldsK qae 2 w blk off d) (a:blk < w.heap.size):Srt w blk off d w:=⟨h,a,vaa _,fun _ _ _=>rfl,rfl,rfl,rfl⟩
theorem Srt.lt1 (h:Srt w blk off d w1):blk < w1.heap.size:=vad h.lt h.size
theorem Srt.below (h:Srt w blk off d w1) (a:RowKit.Below w1.heap.size w1 w2):Srt w blk off d w2 :=
 ⟨fun t e=>⟨(a.cell (p:=⟨blk,off + t,none⟩) h.lt1).trans (h.holds t e).1,(a.frozen (p:=⟨blk,off + t,none⟩) h.lt1).trans (h.holds t e).2⟩,h.lt,vax h.size a.size,
  fun g c b=>(a.block g (vad c h.size)).trans (h.block g c b),a.os.trans h.os,a.tape.trans h.tape,a.output.trans h.output⟩
theorem Srt.trans (h:Srt w blk off d w1) (k:Srt w1 blk off d2 w2):Srt w blk off d2 w2 :=
 ⟨k.holds,h.lt,vax h.size k.size,fun g b a=>(k.block g (vad b h.size) a).trans (h.block g b a),k.os.trans h.os,k.tape.trans h.tape,k.output.trans h.output⟩
theorem Srt.swap (h:Srt w blk off d w1) {i j:Nat} (hi:i < d.size) (k:j < d.size):Srt w blk off (swp d i j) ((w1.drew.setCells blk (off + i * 2) (qae d[j]!)).setCells blk (off + j * 2) (qae d[i]!)):=by
 have f:sortWorldK qae 2 w1 blk off 0 d #[]=w1:=by unfold sortWorldK;rw [grow_empty];exact putRowK_self qae 2 w1 blk off d h.holds
 have c:=sortWorldK_swp_c qae 2 w1 blk off (fun _=>rfl) 0 d #[] h.lt1 i j hi k;rw [f] at c;rw [c];refine ⟨holdsK_sortWorldK_c qae 2 w1 blk off d _ _ _ h.holds h.lt1 (size_swp _ _ _),h.lt,vax h.size (size_sortWorldK_c qae 2 w1 blk off _ _ _),fun g e a=>?_,h.os,h.tape,h.output⟩;have b:g < w1.heap.size:=vad e h.size;refine Eq.trans ?_ (h.block g e a);show ((putRowK qae 2 (Sort.ahead w1 _) blk off _).heap ++ _)[g]?=_;rw [vea (by rw [size_putRowK];exact b)];show ((Sort.ahead w1 _).heap.modify blk _)[g]?=_;rw [vcw,vao (Ne.symm a)];rfl
theorem Srt.cells (h:Srt w blk off d w1) {i:Nat} (hi:i < d.size) (p:ExtW w1):p.to.cell? ⟨blk,off + i * 2,none⟩=some (.int .i64 d[i]!.1)/\p.to.cell? ⟨blk,off + i * 2 + 1,none⟩=some (.int .i64 d[i]!.2) :=
 ⟨((h.below p.h).holds.cell (i:=i) (c:=0) hi jd).1,((h.below p.h).holds.cell (i:=i) (c:=1) hi jd).1⟩
theorem Srt.own (h:Srt w blk off d w1) {i:Nat} (hi:i < d.size):w1.cell? ⟨blk,off + i * 2,none⟩=some (.int .i64 d[i]!.1)/\w1.frozen? ⟨blk,off + i * 2,none⟩=false/\w1.cell? ⟨blk,off + i * 2 + 1,none⟩=some (.int .i64 d[i]!.2)/\w1.frozen? ⟨blk,off + i * 2 + 1,none⟩=false :=
 ⟨(h.holds.cell (i:=i) (c:=0) hi jd).1,(h.holds.cell (i:=i) (c:=0) hi jd).2,(h.holds.cell (i:=i) (c:=1) hi jd).1,(h.holds.cell (i:=i) (c:=1) hi jd).2⟩
end
theorem qck (x y:Int×Int):qaf x y=decide (cmpA x y < 0):=(cmpA_lt x y).symm
