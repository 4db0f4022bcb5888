/- Texts that the law leans on. -/
import Derived.RangeFuncBound
import Derived.Shelf.RegionOpen
import Derived.OwnWalkIn
import Derived.LoopNIn
import Derived.LoopIn
import Derived.Test.YtdcfffhoajmafaaGreatQRangesE
import Derived.Test.YtdcfffhoajmafaaGreatQRound
set_option maxRecDepth 100000
set_option maxHeartbeats 4000000
namespace Go.Proofs.YtdcfffhoajmafaaGreat
open Go.RowKit Go.Sort Go.Lib Go.Shelf Go.Proofs.Tryz
attribute [local go_sem] Oper.semAt_some
abbrev NR:={ x:Int×Int // 1<=x.1/\x.1<=x.2/\x.2<=1000000 }
def isR (x:Int×Int):Bool:=decide (x.1<=x.2)
def encN (x:NR):Array Value:=#[.agg #[.int .i64 x.1.1,.int .i64 x.1.2]]
def Kg (g:Nat) (W W':World):Prop:=W.heap.size<=W'.heap.size/\W'.heap[g]?=W.heap[g]?
theorem Kg.refl (g:Nat) (W:World):Kg g W W:=⟨vaa _,rfl⟩
theorem Kg.trans {g:Nat} {A B C:World} (h:Kg g A B) (k:Kg g B C):Kg g A C:=⟨vax h.1 k.1,k.2.trans h.2⟩
theorem Kg.alloc {g:Nat} {W W':World} (h:Kg g W W') (a:g < W.heap.size) (o:Obj):Kg g W (W'.alloc o) :=
 ⟨by have:=h.1;simp;omega,(Below.heap_alloc W' o g (jg h.1)).trans h.2⟩
theorem Kg.rd {α:Type} [Inhabited α] {enc:α->List Value} {k g off:Nat} {W W':World} {d:Array α} (h:Kg g W W') (i:g < W.heap.size) (j:RdK enc k W.heap.size W (some ⟨g,off,none⟩) d):RdK enc k W'.heap.size W' (some ⟨g,off,none⟩) d:=fun c=>by
 obtain ⟨b,a,e,_,f⟩:=j c;injection e with e
 injection e with e1 e2
 subst e1 e2;refine ⟨g,off,rfl,vad i h.1,fun t l=>?_⟩
 have:=f t l
 unfold World.cell? at this |-
 simpa only [h.2] using this
theorem all2_in (F:Fence) (n:Nat) (hF:F.fn 264) (M:F.round=none) (hn:1<=n) (l b g:Nat) (A:Option Addr) (c:Nat) (d:Array (Int×Int)) (hd:d.size<=1000000) (J O:List NR->World->Prop)
 (U:∀ a x W,J a W->a.length < d.size->YieldAt F (n - 1) prog l (encN x) W fun e q =>
   (e=.returned (.bool true)/\J (a ++ [x]) q/\Kg g W q)\/(e=.returned (.bool false)/\O (a ++ [x]) q))
 (W:World) (S:AbidesFrom W.heap.size J) (hg:g < W.heap.size) (K:W.cell? ⟨b,0,none⟩=some (.slice A d.size c)) (T:∀ wr,Kg g W wr->RdK encR 2 wr.heap.size wr A d)
 (z:∀ x ∈ d,isR x=true->1<=x.1/\x.1<=x.2/\x.2<=1000000) (h0:J [] W) :
 CallsIn F n prog 264 #[.func (.yield l) #[] #[],.pointer (some ⟨b,0,none⟩)] W fun e q=>(∃ v,e=.returned v) /\
  ((∃ X:List NR,X.map (·.1)=d.toList.filter isR/\J X q)\/(∃ a,True/\O a q)):=by
 have HY:=hI U;have Y:=hI S;have E:=hI z;have w:=hI T;clear U S z T;refine callsIn_of_wp func264 rfl hF ?_ M;simp only [ntmps264,vfd,vdy,List.length_nil,Nat.reduceAdd,Nat.reduceSub,Array.replicate_succ,Array.replicate_zero,vfe,List.append_toArray,List.nil_append,List.cons_append]
 gi_wp2
 gi_loopw [7] (fun i wr=>∃ (k:Nat) (a:List NR),k<=d.size/\i=.int .i64 k/\a.map (·.1)=(d.toList.take k).filter isR/\J a wr/\Kg g W wr)
  (fun i _=>d.size - (intOf i).toNat)
 case atStart=>exact ⟨0,[],vaj _,rfl,rfl,h0,Kg.refl _ _⟩
 case round =>
  obtain ⟨k,a,hk,rfl,p,t,y⟩:=hrel;have C:=hI p;clear p;by_cases j:k < d.size
  .obtain ⟨b',a1,rfl,a0,f⟩:=(w.out wr y).at_ j
   have Q:=f 0 jo;have R:=f 1 jo;clear f;have N:Hid (isR d[k]! = true->1<=d[k]!.1/\d[k]!.1<=d[k]!.2/\d[k]!.2<=1000000):=E.out _ (by rw [vae d k j];exact Array.getElem_mem j);have G:Hid ((d.toList.take (k + 1)).filter isR=(d.toList.take k).filter isR ++ [d[k]!].filter isR):=by
    show _=_;rw [List.take_succ_eq_append_getElem (by simpa using j),vdq,vae d k j];rfl
   have Z:Hid (a.length<=k):=by
    show _<=_;have e1:a.length=((d.toList.take k).filter isR).length:=by rw [<-C.out];simp
    have e2:=vcf isR (d.toList.take k);simp at e2;omega
   generalize d[k]! = x at Q R N G;simp only [vak,encR,vac,vaf] at Q R;have kz:(k:Int) < (d.size:Int):=by omega
   have s:J a (wr.alloc (.cells #[.int .i64 x.1,.int .i64 x.2] 124)):=Y.out a wr _ none t (World.grownBy_alloc wr _ none) (fun r e=>by cases e);have o:Kg g W (wr.alloc (.cells #[.int .i64 x.1,.int .i64 x.2] 124)):=y.alloc hg _;by_cases hx:x.1<=x.2
   .have m:isR x=true:=by unfold isR;simp [hx]
    have B:=N.out m;obtain ⟨fn,V,D,P,hy,I⟩:=HY.out a ⟨x,B⟩ _ s (jg Z.out);simp only [encN] at hy
    gi_wp2
    refine I.mono ?_;rintro e W3 (⟨rfl,H,L⟩ | ⟨rfl,u⟩)
    .gi_wp2
     go_roundw
     case rel=>exact ⟨k + 1,a ++ [⟨x,B⟩],by omega,by go_num,by rw [G.out,vdn,C.out];simp [m],H,o.trans L⟩
     case measure=>simp [intOf];omega
    gi_wp2
    refine vau (results_none rfl _ _ _) rfl ?_;exact ⟨⟨_,rfl⟩,.inr ⟨_,trivial,u⟩⟩
   have m:isR x=false:=by unfold isR;simp;omega
   gi_wp2
   refine ⟨fun _ h=>(by cases h),?_⟩
   gi_wp2
   go_roundw
   case rel=>exact ⟨k + 1,a,by omega,by go_num,by rw [G.out,C.out];simp [m],s,o⟩
   case measure=>simp [intOf];omega
  obtain rfl:k=d.size:=by omega
  gi_wp2
  go_end0;exact ⟨⟨_,rfl⟩,.inl ⟨_,by rw [C.out,vaz js],t⟩⟩
def addF (out:Array (Int×Int)) (x:Int×Int):Array (Int×Int) :=
 if 0 < out.size/\x.1<=out[out.size - 1]!.2 + 1 then out.set! (out.size - 1) (out[out.size - 1]!.1,max out[out.size - 1]!.2 x.2) else out.push x
def qhc (l:List (Int×Int)):Array (Int×Int):=l.foldl addF #[]
def qgq (pre:List NR):Array (Int×Int):=qhc (pre.map (·.1))
theorem zaa (a:List NR) (x:NR):qgq (a ++ [x])=addF (qgq a) x.1:=by unfold qgq qhc;simp
theorem addF_size (out:Array (Int×Int)) (x:Int×Int):(addF out x).size<=out.size + 1:=by unfold addF;split <;> simp
theorem qgr:∀ (l:List (Int×Int)) (out:Array (Int×Int)),(l.foldl addF out).size<=out.size + l.length
 | [],_=>by simp
 | x :: l,out=>by
   have:=qgr l (addF out x)
   have:=addF_size out x
   simp only [ves,vdy];omega
theorem zab (a:List NR):(qgq a).size<=a.length:=by
 have:=qgr (a.map (·.1)) #[]
 simpa [qgq,qhc] using this
theorem qjd (out:Array (Int×Int)) (i k:Nat) (v:Int×Int) (h:k≠i):(out.set! i v)[k]! = out[k]!:=by
 rw [Array.getElem!_eq_getD,Array.getElem!_eq_getD,vde,vde];congr 1;simp only [Array.set!_eq_setIfInBounds];rw [Array.getElem?_setIfInBounds_ne (Ne.symm h)]
theorem addF_last {out:Array (Int×Int)} {x:Int×Int} (d:1<=x.2/\x.2<=1000000) (h:∀ k,k < out.size->1<=out[k]!.2/\out[k]!.2<=1000000):∀ k,k < (addF out x).size->1<=(addF out x)[k]!.2/\(addF out x)[k]!.2<=1000000:=by
 intro k b;unfold addF at b |-
 split at b
 .rename_i c
  rw [vam c];have a:k < out.size:=by simpa using b
  by_cases e:k=out.size - 1
  .subst e
   have:(out.set! (out.size - 1) (out[out.size - 1]!.1,max out[out.size - 1]!.2 x.2))[out.size - 1]! = (out[out.size - 1]!.1,max out[out.size - 1]!.2 x.2):=by simp [a]
   rw [this]
   have:=h _ a
   simp only;omega
  have:=qjd out (out.size - 1) k (out[out.size - 1]!.1,max out[out.size - 1]!.2 x.2) e
  rw [this];exact h k a
 rename_i c;rw [vao c];rcases val k out.size with a | a
 .have:(out.push x)[k]! = out[k]!:=by rw [vae _ k jso,vae out k a,Array.getElem_push_lt]
  rw [this];exact h k a
 obtain rfl:k=out.size:=by simp at b;omega
 have:(out.push x)[out.size]! = x:=by rw [vae (out.push x) out.size js];simp
 rw [this];exact d
theorem qox:∀ (l:List NR) (out:Array (Int×Int)),(∀ k,k < out.size->1<=out[k]!.2/\out[k]!.2<=1000000)->∀ k,k < ((l.map (·.1)).foldl addF out).size->1<=((l.map (·.1)).foldl addF out)[k]!.2/\((l.map (·.1)).foldl addF out)[k]!.2<=1000000
 | [],_,h=>h
 | x :: l,out,h=>qox l (addF out x.1) (addF_last ⟨by have:=x.2;omega,x.2.2.2⟩ h)
theorem zac (a:List NR):∀ k,k < (qgq a).size->1<=(qgq a)[k]!.2/\(qgq a)[k]!.2<=1000000:=qox a #[] (fun k b=>absurd b js)
theorem qhd (d:Array (Int×Int)) (k:Nat) (g:k < d.size) (h:Int):(flatK encR 2 (d.set! k (d[k]!.1,h))).toList=(flatK encR 2 d).toList.set (k * 2 + 1) (.int .i64 h):=by
 apply vec;intro t;rcases val t (d.size * 2) with a | a
 .have j:(d.set! k (d[k]!.1,h)).size=d.size:=by simp
  rw [qgp _ _ _ _ (by rw [j];exact a),List.getElem?_set];by_cases e:k * 2 + 1=t
  .rw [vam e,vam jso]
   have i:t / 2=k:=by omega
   have b:t % 2=1:=by omega
   have c:(d.set! k (d[k]!.1,h))[k]! = (d[k]!.1,h):=by simp [g]
   rw [i,b,c];rfl
  rw [vao e,qgp _ _ _ _ a];by_cases f:t / 2=k
  .have b:t % 2=0:=by omega
   have c:(d.set! k (d[k]!.1,h))[k]! = (d[k]!.1,h):=by simp [g]
   rw [f,b,c];rfl
  rw [qjd _ _ _ _ f]
 rw [vbr (by simpa using a),vbr (by simpa using a)]
theorem zad (b g:Nat) (A:Option Addr) (c:Nat) (d:Array (Int×Int)) (u:d.size<=1000000) (w:World) (n:Nat) (y:1<=n) (t:b < w.heap.size) (k:g < w.heap.size) (a:w.cell? ⟨b,0,none⟩=some (.slice A d.size c))
 (z:RdK encR 2 w.heap.size w A d) (q:0 < d.size->∃ f,A=some ⟨g,f,none⟩) (i:∀ x ∈ d,isR x=true->1<=x.1/\x.1<=x.2/\x.2<=1000000) :
 SeqStopsK Fence.wide n prog 264 #[.pointer (some ⟨b,0,none⟩)] encN (Kg g) (fun B=>B.map (·.1)=d.toList.filter isR) (fun _=>True) d.size w:=fun l J m W e r _ s o=>by
 refine all2_in Fence.wide n trivial rfl y l b g A c d u J m s W r (vad k e.size) ((e.cell (p:=⟨b,0,none⟩) t).trans a) (fun wr v=>?_) i o;rcases vba d.size with j | j
 .exact fun h=>absurd h jo
 obtain ⟨f,rfl⟩:=q j;exact v.rd (vad k e.size) ((z.below e).mono e.size)
theorem Kg.putObj {g s:Nat} (b:g < s) (W:World) (l:Nat) (o a:Obj) (c:s<=l) (_:W.heap[l]?=some o) (_:o.isCells=false) (_:o.isWalk=false):Kg g W (W.putObj l a) :=
 ⟨by simp [World.putObj],World.putObj_heap_other jo⟩
theorem qbx {w:World} {a base':Nat} {e:TypeId} {b:Nat} {v:Value} {n:Nat} {f:List Value} (h:w.ownsRow a e b v n f) (i:base'<=a):w.ownsRow base' e b v n f :=
 ⟨h.1,h.2.imp id fun ⟨g,c,d,j,k,l⟩=>⟨g,c,d,j,vax i k,l⟩⟩
theorem kg_app {W b:World} {g B:Nat} {v v':Value} {o:Obj} (j:g < W.heap.size) (c:g≠B) (d:v.ownBlock=some g->False) (a:(W.alloc o).grownBy b v.ownBlock):Kg g W (b.setCell ⟨B,0,none⟩ v'):=by
 have f:=a.size;have h:=a.block g jso (fun e=>d e.symm);have i:=(grownBy_setCell' b B v').block g (by simp at f;omega) (fun e=>c (by injection e));have k:=(grownBy_setCell' b B v').size;exact ⟨by simp at f;omega,i.trans (h.trans (Below.heap_alloc W o g j))⟩
theorem qse {out:Array (Int×Int)} {x:Int×Int} (h:¬ (0 < out.size/\x.1<=out[out.size - 1]!.2 + 1)):addF out x=out.push x:=by unfold addF;rw [vao h]
theorem qmx {W W':World} {n:Nat} (h:KeepsOthers (W.drewN n) W'):KeepsOthers W W':=⟨h.1,h.2⟩
theorem qcb (W:World) (p q:Value) (t:TypeId):∀ j u,[p,q][j]?=some u->(W.alloc (.cells #[p,q] t)).cell? ((⟨W.heap.size,0,none⟩:Addr).add j)=some u:=by
 intro j u a;rw [Addr.add_lit,vcc,qau];rw [<-a];simp
theorem qxb (A1:Option Addr) (c1:Nat) (M:Array (Int×Int)) (A2:Option Addr) (c2:Nat) (d2:Array (Int×Int)) (w:World) (h1:RdK encR 2 w.heap.size w A1 M) (h2:RdK encR 2 w.heap.size w A2 d2) (b5:M.size<=1000000) (b6:d2.size<=1000000)
 (a4:∀ x ∈ M,isR x=true->1<=x.1/\x.1<=x.2/\x.2<=1000000) :
 Calls prog 157 #[.slice A1 M.size c1,.slice A2 d2.size c2] w fun e w'=>∃ z v a,e=.returned v/\SortR M z/\a=(if (qhc (z.toList.filter isR)).size<=1000 then qhc (z.toList.filter isR) else d2)/\w'.ownsRow w.heap.size 124 2 v a.size (flatK encR 2 a).toList/\Below w.heap.size w w':=by
 obtain ⟨i0,a3,a7,a8,a9⟩:=vbo qda;have hA:=all_any A1 c1 M (w.alloc (.cells #[.slice none 0 0] 64)) ((h1.alloc (vaa _) _).mono js) b5;have HA:=hI hA;have b0:=hI a4;have H2:=hI h2;clear hA a4 h1 h2;refine (callsIn_wide (n:=3)).1 ?_;refine callsIn_of_wp_marks func157 rfl trivial ?_ rfl;simp only [ntmps157,vfd,vdy,List.length_nil,Nat.reduceAdd,Nat.reduceSub,Array.replicate_succ,Array.replicate_zero,vfe,List.append_toArray,List.nil_append,List.cons_append]
 gi_wp2_with fail
 refine ⟨trivial,?_⟩
 gi_at_call 217
 refine (callsIn_wide.2 HA.out).mono ?_;rintro e q ⟨z,A',c',b,rfl,hS,b1,u,b3,a6,a1,H⟩;have hz:w.heap.size + 1<=q.heap.size:=by have:=H.size;simpa using this
 have bO:Boxed q w.heap.size 64 (.slice none 0 0):=(H.block _ js).trans (Boxed.new w _ _);have hB:Below w.heap.size w q:=(bel1 w _).trans (H.mono js);obtain ⟨g,d0,I,b8⟩:∃ g,w.heap.size + 1<=g/\g < q.heap.size/\(0 < z.size->∃ L,A'=some ⟨g,L,none⟩):=by
  rcases vba z.size with h' | h'
  .exact ⟨b,by simpa using b1,u,fun h=>absurd h jo⟩
  obtain ⟨g,L,e,_⟩:=a6 h'
  have:=a1 g L e
  exact ⟨g,by simpa using this.1,this.2,fun _=>⟨L,e⟩⟩
 have a5:∀ x ∈ z,isR x=true->1<=x.1/\x.1<=x.2/\x.2<=1000000:=fun x hx=>b0.out x ((hS.2.1 x).1 hx)
 have b4:z.size<=1000000:=by have:=hS.1;omega
 have HS:=hI hS;have c8:=hI (H2.out.below hB);clear hS H a1
 gi_wp2
 refine wpIn_rangeFunc_ownH rfl jo (gf:=264) (lb:=#[.pointer (some ⟨b,0,none⟩)]) rfl trivial (veb func264 jk rfl)
  (zad b g A' c' z b4 q _ jo u I b3 a6 b8 a5) Kg.trans (Kg.putObj I) (vag _ _) (fun _=>rfl)
  (fun j W=>(∃ v,Boxed W w.heap.size 64 v/\W.ownsRow q.heap.size 124 2 v (qgq j).size (flatK encR 2 (qgq j)).toList/\True)/\(Below w.heap.size w W/\q.heap.size<=W.heap.size))
  (fun _ _ _=>False)
  (OwnFrom.and (Own.from (holdsRow_own q.heap.size w.heap.size 64 124 2 (fun j=>(qgq j).size) (fun j=>(flatK encR 2 (qgq j)).toList) (fun _ _=>True)) _) (OwnFrom.and (ownFrom_below (vaa _) jo) (fun _ _ _ _ hs hg _=>vax hs hg.size)))
  (fun _ _ _ _ _ hs _ _=>hs)
  ⟨⟨_,bO,qbk _ _ _ _ _,trivial⟩,hB,vaa _⟩
  (fun x a' W=>∃ Z,W.cell? ⟨Z,0,none⟩=some (.int .i64 x.1.1)/\W.cell? ⟨Z,1,none⟩=some (.int .i64 x.1.2)/\a'={ tmps:=#[.slice A1 M.size c1,.slice A2 d2.size c2,undef,undef,.slice none 0 0,.pointer (some ⟨w.heap.size,0,none⟩),.pointer (some ⟨Z,0,none⟩),undef,.slice A1 M.size c1,.func (.func 264) #[] #[.pointer (some ⟨b,0,none⟩)],.agg #[.int .i64 x.1.1,.int .i64 x.1.2],undef,undef,undef,undef,undef,undef,undef,undef,undef,undef,undef,undef,undef,undef,undef,undef,undef,undef,undef,undef,undef,undef,undef,undef,undef,undef,undef,undef,undef,undef,undef,undef,undef,undef,undef,undef,undef,undef],defers:=[] })
  (fun x a' _ X Y f hs hg hr=>by obtain ⟨Z,q1,q2,q3⟩:=hs;exact ⟨Z,cell_kept q1 hg (fun r e=>(hr r e).2),cell_kept q2 hg (fun r e=>(hr r e).2),q3⟩)
  ?assign ?body ?done ?stop
 case assign =>
  rintro l j x W K ⟨⟨v,G,f,_⟩,i,s⟩ P;simp only [encN]
  gi_wp2
  exact P _ _ ((KeepsOthers.alloc _ _).from _) ((Kg.refl g W).alloc jo _) ⟨⟨v,G.alloc _,f.alloc _,trivial⟩,i.alloc jo _,by simp;omega⟩ ⟨W.heap.size,qau W #[.int .i64 x.1.1,.int .i64 x.1.2] _ 0,qau W #[.int .i64 x.1.1,.int .i64 x.1.2] _ 1,rfl⟩
 case body =>
  rintro l j x a' W hl _ ⟨⟨v,G,f,_⟩,i,s⟩ ⟨Z,q1,q2,rfl⟩ d7;have c6:=zab j;have HL:=hI (zac j);have HN:=hI (zaa j x);generalize qgq j=a at c6 HL HN f;have hx:=x.2;have cV:=G.cell;have fV:=G.frozen;rcases vba a.size with h0 | h0
  .obtain rfl:a=#[]:=var h0
   obtain ⟨A,c,rfl,_,_⟩:=qaq f;simp only [vfd,List.length_nil] at cV
   gi_wp2_with fail
   refine qfg (by rintro ⟨_,_,h⟩;exact h.elim) jk jk jk ?_
   repeat (go_big_quiet_step (fail))
   refine van ?_;intro _ F;obtain ⟨nq,rfl⟩:=F;have m:(W.drewN nq).ownsRow q.heap.size 124 2 (.slice A 0 c) 0 []:=by have:=f;rw [qdl] at this;exact this
   have N:Boxed (W.drewN nq) w.heap.size 64 (.slice A 0 c):=G
   gi_wp2_with (gi_at_builtin;refine wpListIn_append_own _ rfl _ _ 64 rfl q.heap.size 124 i0 (.agg #[.int .i64 0,.int .i64 0]) 2 16 underlying64 a3 a7 a8 a9 rfl jd _ _ _ rfl (m.alloc _) ⟨W.heap.size,0,none⟩ 1 1 [.int .i64 x.1.1,.int .i64 x.1.2] rfl rfl (qcb (W.drewN nq) _ _ _) jV jl jo jso ?_;intro v' w2 d k _;obtain ⟨g',o,rfl⟩:=ownsRow_succ d;obtain ⟨t,V,c4,S,u⟩:=N.appended jd (qbx m (show w.heap.size<=q.heap.size by omega)) i.size (vaa _) (qbx d (show w.heap.size<=q.heap.size by omega)) k;have b2:=t.cell;have b7:=t.frozen)
   have U:=d.kept (grownBy_setCell' w2 w.heap.size (.slice (some ⟨g',0,none⟩) (0 + 1) o)) (.inr (t.not_row jd d).symm);have E:=kg_app (B:=w.heap.size) (v:=.slice A 0 c) (v':=.slice (some ⟨g',0,none⟩) (0 + 1) o) (show g < (W.drewN nq).heap.size from vad I s) jo (fun e=>by have:=(m.lt _ e).1;omega) k;refine ⟨(qmx S).from _,E,⟨⟨_,V,?_,trivial⟩,(qaj i nq).trans u,?_⟩⟩
   .rw [HN.out,qse js,vbk,qax qbj,qdl]
    simpa [encR] using U
   have:=E.1
   exact vax s this
  obtain ⟨g0,O,rfl,d3,d4,hH⟩:=qbl f (by
   rintro rfl;obtain ⟨_,⟨_,h'⟩ | ⟨_,_,_,e,_⟩⟩:=f
   .omega
   cases e)
  have c3:=HL.out (a.size - 1) jo;have R:=(hH ((a.size - 1) * 2 + 1) (by rw [size_flatK];omega)).1;rw [vcc,qfw _ _ _ _ _ jo jd] at R;have HP:Hid (¬ (x.1.1<=a[a.size - 1]!.2 + 1)->addF a x.1=a.push x.1):=fun h=>qse (fun h'=>h h'.2)
  have HJ:Hid (x.1.1<=a[a.size - 1]!.2 + 1->addF a x.1=a.set! (a.size - 1) (a[a.size - 1]!.1,max a[a.size - 1]!.2 x.1.2)):=fun h=>by unfold addF;rw [vam ⟨h0,h⟩]
  have HF:∀ h,Hid ((flatK encR 2 (a.set! (a.size - 1) (a[a.size - 1]!.1,h))).toList=(flatK encR 2 a).toList.set ((a.size - 1) * 2 + 1) (.int .i64 h)):=fun h=>qhd a (a.size - 1) jo h
  have c9:=f.frozenAt ((a.size - 1) * 2 + 1);clear hH;generalize a[a.size - 1]! = y at c3 R HP HJ HF;simp only [encR,vac,vaf] at R;have p0:(0:Int)<=(a.size:Int) - 1:=by omega
  have p1:(a.size:Int) - 1 < (a.size:Int):=by omega
  have p2:(1:Int)<=(a.size:Int):=by omega
  have d5:((a.size:Int) - 1).toNat=a.size - 1:=by omega
  have d8:IntKind.i64.wrap ((a.size:Int) - 1)=(a.size:Int) - 1:=by rw [vbc];omega
  have d9:IntKind.i64.wrap (y.2 + 1)=y.2 + 1:=by rw [vbc];omega
  by_cases hj:x.1.1<=y.2 + 1
  .gi_wp2_with fail
   refine qfg (by rintro ⟨_,_,h⟩;exact h.elim) jk jk jk ?_
   repeat (go_big_quiet_step (fail))
   refine van ?_;intro _ F;obtain ⟨nq,rfl⟩:=F
   gi_wp2_with fail
   refine qne 12 (by rintro ⟨_,_,h⟩;exact h.elim) jk jk jk ?_;simp only [List.take_succ_cons,List.take_zero,List.drop_succ_cons,List.drop_zero]
   repeat still_step
   try refine wpStill_nil ?_
   go_wp2;obtain ⟨c5,J⟩:=World.ownsRow.stored (w:=(W.drewN nq).drew) (by exact f) ((a.size - 1) * 2 + 1) (.int .i64 (max y.2 x.1.2));have hk:=KeepsOthers.setCell (W.drewN nq).drew ⟨g0,(a.size - 1) * 2 + 1,none⟩ (.int .i64 (max y.2 x.1.2));have b9:KeepsOthers W _:=⟨hk.1,hk.2⟩
   refine ⟨b9.from _,⟨J.size,J.block g (show g < W.heap.size by omega) (fun e=>by injection e;omega)⟩,⟨⟨_,Boxed.kept (W:=(W.drewN nq).drew) G J (fun e=>by injection e;omega),?_,trivial⟩,(qaj i nq).drew.setCell (p:=⟨g0,_,none⟩) (show w.heap.size<=g0 by omega) _,vax s J.size⟩⟩;rw [HN.out,HJ.out hj,(HF _).out];simpa using c5
  have d6:decide (x.1.1<=y.2 + 1)=false:=by simp;omega
  gi_wp2_with fail
  refine qfg (by rintro ⟨_,_,h⟩;exact h.elim) jk jk jk ?_
  repeat (go_big_quiet_step (fail))
  refine van ?_;intro _ F;obtain ⟨nq,rfl⟩:=F;have m:(W.drewN nq).ownsRow q.heap.size 124 2 (.slice (some ⟨g0,0,none⟩) a.size O) a.size (flatK encR 2 a).toList:=f;have N:Boxed (W.drewN nq) w.heap.size 64 (.slice (some ⟨g0,0,none⟩) a.size O):=G
  gi_wp2_with (gi_at_builtin;refine wpListIn_append_own _ rfl _ _ 64 rfl q.heap.size 124 i0 (.agg #[.int .i64 0,.int .i64 0]) 2 16 underlying64 a3 a7 a8 a9 rfl jd _ _ _ rfl (m.alloc _) ⟨W.heap.size,0,none⟩ 1 1 [.int .i64 x.1.1,.int .i64 x.1.2] rfl rfl (qcb (W.drewN nq) _ _ _) jV jl jo jso ?_;intro v' w2 d k _;obtain ⟨g',o,rfl⟩:=ownsRow_succ d;obtain ⟨t,V,c4,S,u⟩:=N.appended jd (qbx m (show w.heap.size<=q.heap.size by omega)) i.size (vaa _) (qbx d (show w.heap.size<=q.heap.size by omega)) k;have b2:=t.cell;have b7:=t.frozen)
  have U:=d.kept (grownBy_setCell' w2 w.heap.size (.slice (some ⟨g',0,none⟩) (a.size + 1) o)) (.inr (t.not_row jd d).symm);have E:=kg_app (B:=w.heap.size) (v:=.slice (some ⟨g0,0,none⟩) a.size O) (v':=.slice (some ⟨g',0,none⟩) (a.size + 1) o) (show g < (W.drewN nq).heap.size from vad I s) jo (fun e=>by have:=(m.lt _ e).1;omega) k;refine ⟨(qmx S).from _,E,⟨⟨_,V,?_,trivial⟩,(qaj i nq).trans u,?_⟩⟩
  .rw [HN.out,HP.out hj,vbk,qax qbj]
   exact U
  have:=E.1
  exact vax s this
 case done =>
  rintro D ys W hD c7 ⟨⟨v,G,f,_⟩,i,s⟩ P;have HY:Hid (qgq ys=qhc (z.toList.filter isR)):=by show _=_;unfold qgq;rw [c7]
  obtain ⟨A,c,rfl,_,_⟩:=qaq f;have cV:=G.cell;by_cases C:(qgq ys).size<=1000
  .have ht:decide ((1000:Int) < ((qgq ys).size:Int))=false:=by simp;omega
   generalize a2:qgq ys=a at *
   gi_wp2
   refine ⟨by simp,.inl ⟨_,_,rfl,run_takeDeferred P,?_⟩⟩;exact ⟨_,results_tmp rfl _ _ _,z,_,a,rfl,HS.out,by rw [<-HY.out,vam C],ownsRow_putObj (qbx f (show w.heap.size<=q.heap.size by omega)) _ P rfl,i.trans (belowK_b (w:=w) (vaa _) W D _ _ jo P rfl rfl)⟩
  have ht:(1000:Int) < ((qgq ys).size:Int):=by omega
  generalize a2:qgq ys=a at *;have hC:=qxa A2 c2 d2 W ((H2.out.below i).mono i.size) b6;have HC:=hI hC;clear hC
  gi_wp2_with fail
  refine ⟨trivial,?_⟩
  gi_at_call 155
  refine (callsIn_wide.2 HC.out).mono ?_;rintro e w3 ⟨v3,rfl,T,a0⟩;have c0:D < W.heap.size:=(vbm.1 P).1;have Q:w3.heap[D]?=some (.deferred (some [])):=(a0.block D c0).trans P
  gi_wp2
  refine ⟨by simp,.inl ⟨_,_,rfl,run_takeDeferred Q,?_⟩⟩;exact ⟨_,results_tmp rfl _ _ _,z,v3,d2,rfl,HS.out,by rw [<-HY.out,vao C],ownsRow_putObj (qbx T i.size) _ Q rfl,(qaa i a0).trans (belowK_b (w:=w) (vaa _) w3 D _ _ jo Q rfl rfl)⟩
 case stop =>
  rintro D c j W _ _ h _;exact h.elim
end Go.Proofs.YtdcfffhoajmafaaGreat
namespace Go.Proofs.YtdcfffhoajmafaaGreat
open Go.RowKit Go.Sort Go.Lib Go.Proofs.Tryz
def qez (x:Int×Int):Int×Int:=(max x.1 1,min x.2 1000000)
theorem qxc (x:Int×Int) (w:World) :
 Calls prog 156 #[.agg #[.int .i64 x.1,.int .i64 x.2]] w fun e b=>e=.returned (.agg #[.int .i64 (qez x).1,.int .i64 (qez x).2])/\Below w.heap.size w b:=by
 unfold qez;go_in;go_wp2;have a:prog.underlying 124 = some (.struct (prog.fieldsOf 124)):=by kernel_rfl
 refine vau (results_cell_row rfl _ _ (w.heap.size + 1) 124 _ (0,0) _ rfl (veh w _ _) a rfl jk) rfl ?_;exact ⟨rfl,qab (bel1 _ _) _⟩
theorem fits_any (b c:Option Addr) (n1 c1 a c2:Nat) (w:World) :
 Calls prog 230 #[.slice b n1 c1,.slice c a c2] w fun e f=>e=.returned (if n1<=1000 then .slice b n1 c1 else .slice c a c2)/\w=f:=by
 by_cases h:n1<=1000
 .have d:decide ((1000:Int) < (n1:Int))=false:=by simp;omega
  go_in;go_wp2;go_ret;exact ⟨rfl,rfl⟩
 have d:(1000:Int) < (n1:Int):=by omega
 clear h;go_in;go_wp2;go_ret;exact ⟨rfl,rfl⟩
def qiv (d1 d2:Array (Int×Int)):Nat->Array (Int×Int)
 | 0=>d1
 | k + 1=>(qiv d1 d2 k).push (qez d2[k]!)
theorem qil (a d2:Array (Int×Int)):∀ k,(qiv a d2 k).size=a.size + k
 | 0=>rfl
 | k + 1=>by simp [qiv,qil a d2 k];omega
def Formed (m was out:Array (Int×Int)):Prop:=∃ d',SortR m d'/\out=(if (qhc (d'.toList.filter isR)).size<=1000 then qhc (d'.toList.filter isR) else was)
theorem qqf {a d2:Array (Int×Int)} (h:qam a=0):∀ k,∀ x ∈ qiv a d2 k,isR x=true->1<=x.1/\x.1<=x.2/\x.2<=1000000
 | 0,x,hx,_=>by
   obtain ⟨i,b,rfl⟩:=Array.mem_iff_getElem.1 (show x ∈ a from hx)
   have:=zak h b
   rw [vae a i b] at this;omega
 | k + 1,x,hx,hr=>by
   rcases Array.mem_push.1 hx with c | rfl
   .exact qqf h k x c hr
   unfold isR qez at hr;simp only [vap] at hr;unfold qez;simp only;omega
theorem qjz {w w':World} {a:Nat} {e:TypeId} {b:Nat} {v:Value} {n:Nat} {i:List Value} (h:w.ownsRow a e b v n i) (j:Below w.heap.size w w'):w'.ownsRow a e b v n i :=
 ⟨h.1,h.2.imp id fun ⟨g,c,d,k,l,f,m⟩=>⟨g,c,d,k,l,(j.block g (vbm.1 f).1).trans f,m⟩⟩
theorem own_app {w wr c:World} {o:Obj} {e:TypeId} {s n:Nat} {v:Value} {g:List Value} (b:Below w.heap.size w wr) (a:wr.ownsRow w.heap.size e s v n g) (d:(wr.alloc o).grownBy c v.ownBlock):Below w.heap.size w c :=
 (qab b o).grown d (qab b o).size (fun k f=>(a.lt k f).1)
theorem gAdd_any (y:Option Addr) (c1:Nat) (a:Array (Int×Int)) (M:Option Addr) (c2:Nat) (d2:Array (Int×Int)) (w:World) (z:RdK encR 2 w.heap.size w y a) (h2:RdK encR 2 w.heap.size w M d2) (a1:d2.size<=100000) :
 Calls prog 75 #[.slice y a.size c1,.slice M d2.size c2] w fun e Y=>∃ v d,e=.returned v/\(qam a=0->Formed (qiv a d2 d2.size) a d)/\(qam a≠0->d=#[])/\Y.ownsRow w.heap.size 124 2 v d.size (flatK encR 2 d).toList/\Below w.heap.size w Y:=by
 by_cases o:qam a=0
 .have hq:(qam a == 0)=true:=by simp [o]
  have a0:=(qcy o).1;have HO:=hI (fun k=>qqf (d2:=d2) o k);have B:=hI o;obtain ⟨i0,F,I,J,K⟩:=vbo qda;clear o;go_in;go_wp2_with fail;refine (qgc _ _ a _ z).mono ?_;rintro e Z ⟨rfl,j⟩;have O:=hI (qxa y c1 a Z ((z.below j).mono j.size) jo);go_wp2_with fail;refine O.out.mono ?_;rintro e w2 ⟨v0,rfl,l,D⟩;have C:Below w.heap.size w w2:=qaa j D;have g:=qbx l j.size;clear l O;obtain ⟨A0,c0,rfl,_,_⟩:=qaq g;go_wp2
  go_loopw [5,15] (fun m i wr=>∃ k:Nat,k<=d2.size/\i=.int .i64 k/\wr.ownsRow w.heap.size 124 2 m (qiv a d2 k).size (flatK encR 2 (qiv a d2 k)).toList/\Below w.heap.size w wr) (fun _ i _=>d2.size - (intOf i).toNat)
  case atStart=>exact ⟨0,vaj _,rfl,g,C⟩
  case round =>
   obtain ⟨k,hk,rfl,c,s⟩:=hrel;have X:(qiv a d2 k).size<=a.size + k:=vby (qil a d2 k);by_cases G:k < d2.size
   .obtain ⟨b,a3,rfl,_,f⟩:=(h2.below s).at_ G
    have R:=f 0 jo;have S:=f 1 jo;have A:Hid (qiv a d2 (k + 1)=(qiv a d2 k).push (qez d2[k]!)):=rfl;generalize d2[k]! = x at R S A;simp only [vak,encR,vac,vaf] at R S;clear f;generalize qiv a d2 k=m at c A X;obtain ⟨N,Q,rfl,_,_⟩:=qaq c;have kz:(k:Int) < (d2.size:Int):=by omega
    go_wp2_with fail;refine (qxc x _).mono ?_;rintro e L ⟨rfl,t⟩;have u:Below w.heap.size w L:=qaa (qab s _) t;have n:=qjz (c.alloc _) t;have a2:=u.size;go_wp2_with (at_builtin;refine vay _ rfl _ _ 64 rfl w.heap.size 124 i0 (.agg #[.int .i64 0,.int .i64 0]) 2 16 underlying64 F I J K rfl jd _ _ _ rfl (n.alloc _) ⟨L.heap.size,0,none⟩ 1 1 [.int .i64 (qez x).1,.int .i64 (qez x).2] rfl rfl (qcb L _ _ _) jV jl jo jso ?_;intro v' w4 q p _);exact ⟨⟨k + 1,by omega,by go_num,(by rw [A.out,vbk,qax qbj];exact q),own_app u n p⟩,by simp [intOf];omega⟩
   obtain rfl:k=d2.size:=by omega
   have P:=hI (HO.out d2.size);generalize U:qiv a d2 d2.size=m at c P X;have HE:=hI U;clear U;obtain ⟨N,Q,rfl,H,_⟩:=qaq c;have HF:=hI (qxb N Q m y c1 a wr H ((z.below s).mono s.size) jo jo P.out);go_wp2_with fail;refine HF.out.mono ?_;rintro e w5 ⟨d',v,d,rfl,T,V,r,E⟩;have HX:Hid (Formed m a d):=⟨d',T,V⟩
   clear T V;go_wp2;go_ret;exact ⟨_,d,rfl,fun _=>by rw [HE.out];exact HX.out,fun h=>absurd B.out h,qbx r s.size,qaa s E⟩
 have hq:(qam a == 0)=false:=by simpa using o
 have B:=hI o;clear o;go_in;go_wp2_with fail;refine (qgc _ _ a _ z).mono ?_;rintro e Z ⟨rfl,j⟩;go_wp2;go_ret;exact ⟨_,#[],rfl,fun h=>absurd h B.out,fun _=>rfl,qbk _ _ _ _ _,j⟩
def qhz (d:Array (Int×Int)) (r:Int×Int):Nat->Array (Int×Int)
 | 0=>#[]
 | k + 1=>((qhz d r k).push (d[k]!.1,min d[k]!.2 (r.1 - 1))).push (max d[k]!.1 (r.2 + 1),d[k]!.2)
theorem qoy (d:Array (Int×Int)) (r:Int×Int):∀ k,(qhz d r k).size=2 * k
 | 0=>rfl
 | k + 1=>by simp [qhz,qoy d r k];omega
theorem qqg {d:Array (Int×Int)} {r:Int×Int} (h:qam d=0) (b:1<=r.2):∀ k,k<=d.size->∀ x ∈ qhz d r k,isR x=true->1<=x.1/\x.1<=x.2/\x.2<=1000000
 | 0,_,x,hx,_=>by simp [qhz] at hx
 | k + 1,hk,x,hx,hrx=>by
   have o:=zak h (k:=k) jo;rcases Array.mem_push.1 hx with a | rfl
   .rcases Array.mem_push.1 a with a | rfl
    .exact qqg h b k jo x a hrx
    unfold isR at hrx;simp only [vap] at hrx |-
    omega
   unfold isR at hrx;simp only [vap] at hrx |-
   omega
def qia (d:Array (Int×Int)) (r:Int×Int) (out:Array (Int×Int)):Prop :=
 if (qez r).2 < (qez r).1 then out=d else Formed (qhz d (qez r) d.size) d out
def NL (l:List (Int×Int)):Prop:=(∀ x ∈ l,1<=x.1/\x.1<=x.2/\x.2<=1000000)/\l.Pairwise (fun x y=>x.2 + 1 < y.1)
theorem qcp {n:Int} {x:Int×Int}:qcg n x=true↔x.1<=n/\n<=x.2:=by unfold qcg;simp
theorem qmy {l:List (Int×Int)} {n:Int}:l.any (qcg n)=true↔∃ x ∈ l,x.1<=n/\n<=x.2:=by simp [List.any_eq_true,qcp]
theorem qgi {d:Array (Int×Int)} {n:Int}:inR d n=true↔∃ x ∈ d.toList,x.1<=n/\n<=x.2:=qmy
theorem NL.tail {x:Int×Int} {l:List (Int×Int)} (h:NL (x :: l)):NL l:=⟨fun y a=>h.1 y (by simp [a]),(vbu.1 h.2).2⟩
theorem NL.gt {x:Int×Int} {l:List (Int×Int)} (h:NL (x :: l)) {n:Int} (a:l.any (qcg n)=true):x.2 + 1 < n:=by
 obtain ⟨y,b,c,_⟩:=qmy.1 a
 have:=(vbu.1 h.2).1 y b
 omega
theorem any_cons {x:Int×Int} {l:List (Int×Int)} {n:Int}:(x :: l).any (qcg n)=true↔(x.1<=n/\n<=x.2)\/l.any (qcg n)=true:=by
 rw [vfg,vcd,qcp]
theorem NL.first {x y:Int×Int} {l m:List (Int×Int)} (h:NL (x :: l)) (k:NL (y :: m)) (e:∀ n,(x :: l).any (qcg n)=true->(y :: m).any (qcg n)=true):y.1<=x.1/\(x.1=y.1->x.2<=y.2):=by
 have d:=h.1 x js;have f:=k.1 y js
 constructor
 .rcases any_cons.1 (e x.1 (any_cons.2 (Or.inl ⟨by omega,by omega⟩))) with a | a
  .omega
  have:=k.gt a;omega
 intro c;rcases veu y.2 x.2 with b | b
 .rcases any_cons.1 (e (y.2 + 1) (any_cons.2 (Or.inl ⟨by omega,by omega⟩))) with a | a
  .omega
  have:=k.gt a;omega
 exact b
theorem NL.uniq:∀ {l m:List (Int×Int)},NL l->NL m->(∀ n,l.any (qcg n)=m.any (qcg n))->l=m
 | [],[],_,_,_=>rfl
 | [],y :: m,_,k,e=>by
   have q:=k.1 y js
   have:=e y.1
   rw [any_cons.2 (Or.inl ⟨by omega,by omega⟩)] at this;simp at this
 | x :: l,[],h,_,e=>by
   have p:=h.1 x js
   have:=e x.1
   rw [any_cons.2 (Or.inl ⟨by omega,by omega⟩)] at this;simp at this
 | x :: l,y :: m,h,k,e=>by
   have a:=h.first k (fun n c=>by rw [<-e n];exact c);have b:=k.first h (fun n c=>by rw [e n];exact c);have f:x.1=y.1:=by omega
   have j:x.2=y.2:=by have:=a.2 f;have:=b.2 f.symm;omega
   have o:x=y:=Prod.ext f j;subst o;rw [NL.uniq h.tail k.tail fun n=>?_];rw [vbd];have i:=e n
   constructor
   .intro c
    have g:=h.gt c;rcases any_cons.1 (i ▸ any_cons.2 (Or.inr c)) with d | d
    .omega
    exact d
   intro c;have g:=k.gt c;rcases any_cons.1 (i.symm ▸ any_cons.2 (Or.inr c)) with d | d
   .omega
   exact d
theorem NL.chain {d:Array (Int×Int)} (h:∀ k,k < d.size->qhs d k=false):NL d.toList:=by
 have g:∀ k,k < d.size->1<=d[k]!.1/\d[k]!.1<=d[k]!.2/\d[k]!.2<=1000000/\(0 < k->d[k - 1]!.2 + 1 < d[k]!.1):=by
  intro k g
  have:=h k g
  unfold qhs at this;rw [vat] at this;refine ⟨by omega,by omega,by omega,fun s=>by omega⟩
 refine ⟨fun x r=>?_,?_⟩
 .obtain ⟨i,f,rfl⟩:=vbt.1 r
  have:=g i (by simpa using f)
  rw [vae d i (by simpa using f)] at this;simpa using ⟨this.1,this.2.1,this.2.2.1⟩
 rw [vbp];have n:∀ m i,i + m + 1 < d.size->d[i]!.2 + 1 < d[i + m + 1]!.1:=by
  intro m
  induction m with
  | zero=>intro i f;have:=(g (i + 1) jo).2.2.2 jo;simpa using this
  | succ m ih =>
    intro i f;have a:=ih i jo;have b:=g (i + m + 1) jo;have c:=(g (i + (m + 1) + 1) jo).2.2.2 jo;have e:i + (m + 1) + 1 - 1=i + m + 1:=by omega
    rw [e] at c;omega
 intro i j f q p;have o:i < d.size:=by simpa using f
 have l:j < d.size:=by simpa using q
 obtain ⟨m,rfl⟩:∃ m,j=i + m + 1:=⟨j - i - 1,by omega⟩
 have:=n m i l
 rw [vae d i o,vae d _ l] at this;simpa using this
theorem NL.of_set {d:Array (Int×Int)} (h:qam d=0):NL d.toList:=NL.chain (qcy h).2
theorem NL.bad {d:Array (Int×Int)} (h:NL d.toList) (k:Nat) (c:k < d.size):qhs d k=false:=by
 unfold qhs;rw [vat];have a:=h.1 d[k]! (by rw [vae d k c];simp);have b:0 < k->d[k - 1]!.2 + 1 < d[k]!.1:=fun e=>by
  have:=vbp.1 h.2 (k - 1) k jso (by simpa using c) jo
  rw [vae d k c,vae d (k - 1) jo];simpa using this
 omega
theorem NL.set {d:Array (Int×Int)} (h:NL d.toList) (a:d.size<=1000):qam d=0:=qvb a h.bad
def IsN (p:Int->Bool) (s:Array (Int×Int)):Prop:=NL s.toList/\∀ n,inR s n=p n
theorem IsN.uniq {p:Int->Bool} {s t:Array (Int×Int)} (h:IsN p s) (k:IsN p t):s=t :=
 vda.1 (NL.uniq h.1 k.1 fun n=>(h.2 n).trans (k.2 n).symm)
def Fit (p:Int->Bool) (was out:Array (Int×Int)):Prop:=∃ s,IsN p s/\out=if s.size<=1000 then s else was
theorem Fit.uniq {p:Int->Bool} {was s t:Array (Int×Int)} (h:Fit p was s) (k:Fit p was t):s=t:=by
 obtain ⟨a,c,rfl⟩:=h;obtain ⟨b,d,rfl⟩:=k;rw [c.uniq d]
theorem Fit.congr {p q:Int->Bool} {was s:Array (Int×Int)} (h:Fit p was s) (e:∀ n,p n=q n):Fit q was s:=by
 obtain ⟨a,b,rfl⟩:=h;exact ⟨a,⟨b.1,fun n=>(b.2 n).trans (e n)⟩,rfl⟩
theorem addF_list {out:Array (Int×Int)} {x:Int×Int}:(out=#[]/\(addF out x).toList=[x])\/∃ l y,out.toList=l ++ [y]/\(addF out x).toList=if x.1<=y.2 + 1 then l ++ [(y.1,max y.2 x.2)] else l ++ [y,x]:=by
 rcases vba out.size with d | d
 .left
  obtain rfl:out=#[]:=var d;exact ⟨rfl,by simp [addF]⟩
 right
 have a:out.toList≠[]:=fun e=>by
  have g:out.toList.length=0:=by rw [e];rfl
  rw [ved] at g;omega
 have b:=(List.dropLast_concat_getLast a).symm;generalize out.toList.dropLast=l at b;generalize out.toList.getLast a=y at b;refine ⟨l,y,b,?_⟩;obtain rfl:out=(l ++ [y]).toArray:=by rw [<-b]
 unfold addF;have f:(l ++ [y]).toArray[(l ++ [y]).toArray.size - 1]! = y:=by
  rw [vae _ _ js];simp
 rw [f];by_cases c:x.1<=y.2 + 1
 .rw [vam ⟨by simp,c⟩,vam c];simp
 rw [vao (fun h=>c h.2),vao c];simp
theorem addF_ok {out:Array (Int×Int)} {x:Int×Int} (h:NL out.toList) (q:1<=x.1/\x.1<=x.2/\x.2<=1000000) (p:∀ y ∈ out.toList,y.1<=x.1) :
 NL (addF out x).toList/\(∀ n,inR (addF out x) n=(inR out n || qcg n x))/\∀ z,(∀ y ∈ out.toList,y.1<=z)->x.1<=z->∀ y ∈ (addF out x).toList,y.1<=z:=by
 unfold inR;rcases addF_list (out:=out) (x:=x) with ⟨rfl,e⟩ | ⟨l,y,k,e⟩
 .rw [e]
  exact ⟨⟨by simpa using q,by simp⟩,fun n=>by simp,by simp⟩
 rw [k] at h p;rw [e,k];have i:=vcm.1 h.2;have s:=h.1 y js;have r:=p y js;by_cases o:x.1<=y.2 + 1
 .rw [vam o]
  refine ⟨⟨?_,?_⟩,?_,?_⟩
  .intro z d
   rcases vbw.1 d with d | d
   .exact h.1 z (by simp [d])
   simp at d;subst d;simp only;omega
  .rw [vcm]
   refine ⟨i.1,by simp,fun a j b g=>?_⟩;simp at g;subst g;exact i.2.2 a j y js
  .intro n
   rw [vel,vel,Bool.or_assoc];congr 1;simp only [vfg,List.any_nil,Bool.or_false];rw [vbd,vcd,qcp,qcp,qcp];simp only;omega
  intro z f m u c;rcases vbw.1 c with c | c
  .exact f u (by simp [c])
  simp at c;subst c;exact f y js
 rw [vao o];refine ⟨⟨?_,?_⟩,?_,?_⟩
 .intro z d
  rcases vbw.1 d with d | d
  .exact h.1 z (by simp [d])
  simp at d;rcases d with rfl | rfl
  .exact s
  exact q
 .rw [vcm]
  refine ⟨i.1,by simp;omega,fun a j b g=>?_⟩
  have:=i.2.2 a j y js
  simp at g;rcases g with rfl | rfl
  .exact this
  omega
 .intro n
  simp only [vel,vfg,List.any_nil,Bool.or_false,Bool.or_assoc]
 intro z f m u c;rcases vbw.1 c with c | c
 .exact f u (by simp [c])
 simp at c;rcases c with rfl | rfl
 .exact f _ js
 exact m
theorem qlr:∀ (l:List (Int×Int)) (out:Array (Int×Int)),NL out.toList->(∀ x ∈ l,1<=x.1/\x.1<=x.2/\x.2<=1000000)->l.Pairwise (fun x y=>x.1<=y.1)->(∀ x ∈ l,∀ y ∈ out.toList,y.1<=x.1) ->
 NL (l.foldl addF out).toList/\∀ n,inR (l.foldl addF out) n=(inR out n || l.any (qcg n))
 | [],out,h,_,_,_=>⟨h,fun n=>by simp⟩
 | x :: l,out,h,hx,hp,hl=>by
   obtain ⟨a,b,c⟩:=addF_ok h (hx x js) (hl x js);have d:=vbu.1 hp
   have:=qlr l (addF out x) a (fun z e=>hx z (by simp [e])) d.2 (fun z e=>c z.1 (hl z (by simp [e])) (d.1 z e))
   refine ⟨this.1,fun n=>?_⟩;rw [ves,this.2 n,b n,vfg,Bool.or_assoc]
theorem Formed.fit {m was out:Array (Int×Int)} (h:Formed m was out) (p:∀ x ∈ m,isR x=true->1<=x.1/\x.1<=x.2/\x.2<=1000000):Fit (inR m) was out:=by
 obtain ⟨b,⟨_,a,r⟩,rfl⟩:=h;have q:b.toList.Pairwise (fun x y=>x.1<=y.1):=by
  rw [vbp];intro i j o g f
  have:=r i j f (by simpa using g)
  rw [vae b i (by simpa using o),vae b j (by simpa using g)] at this;simpa using this
 have:=qlr (b.toList.filter isR) #[] ⟨by simp,by simp⟩ (fun x d=>by
  obtain ⟨c,e⟩:=vck.1 d
  exact p x ((a x).1 (by simpa using c)) e) (q.filter _) js
 refine ⟨qhc (b.toList.filter isR),⟨this.1,fun n=>?_⟩,rfl⟩;show inR (List.foldl addF #[] (b.toList.filter isR)) n=_;rw [this.2 n];have k:inR #[] n=false:=rfl;rw [k,Bool.false_or,vbd,qmy,qgi]
 constructor
 .rintro ⟨x,d,c⟩
  obtain ⟨l,_⟩:=vck.1 d;exact ⟨x,by have:=(a x).1 (by simpa using l);simpa using this,c⟩
 rintro ⟨x,d,c,e⟩;refine ⟨x,vck.2 ⟨by have:=(a x).2 (by simpa using d);simpa using this,?_⟩,c,e⟩;unfold isR;simp;omega
def may1 (n:Int):Bool:=decide (1<=n/\n<=1000000)
theorem qls {d:Array (Int×Int)} {x:Int×Int} {n:Int}:inR (d.push x) n=(inR d n || qcg n x):=by unfold inR;simp
theorem qib {d:Array (Int×Int)} (h:NL d.toList) {n:Int} (a:inR d n=true):1<=n/\n<=1000000:=by
 obtain ⟨x,b,c,e⟩:=qgi.1 a
 have:=h.1 x b
 omega
theorem qim {d:Array (Int×Int)} {n:Int}:inR d n=true↔∃ j,j < d.size/\d[j]!.1<=n/\n<=d[j]!.2:=by
 rw [qgi]
 constructor
 .rintro ⟨x,e,h⟩
  obtain ⟨i,b,rfl⟩:=vbt.1 e;have a:i < d.size:=by simpa using b
  exact ⟨i,a,by rw [vae d i a];simpa using h⟩
 rintro ⟨j,c,h⟩;exact ⟨d[j]!,by rw [vae d j c];simp,h⟩
theorem qxd (a d2:Array (Int×Int)) (n:Int):∀ k,inR (qiv a d2 k) n=true↔inR a n=true\/((1<=n/\n<=1000000)/\∃ j,j < k/\d2[j]!.1<=n/\n<=d2[j]!.2)
 | 0=>by simp [qiv]
 | k + 1=>by
   show inR ((qiv a d2 k).push _) n=true↔_;rw [qls,vcd,qxd a d2 n k,qcp];unfold qez;simp only
   constructor
   .rintro ((h | ⟨h,j,d,b⟩) | h)
    .exact Or.inl h
    .exact Or.inr ⟨h,j,by omega,b⟩
    exact Or.inr ⟨by omega,k,by omega,by omega,by omega⟩
   rintro (h | ⟨h,j,d,b⟩)
   .exact Or.inl (Or.inl h)
   rcases val j k with c | c
   .exact Or.inl (Or.inr ⟨h,j,c,b⟩)
   obtain rfl:j=k:=by omega
   exact Or.inr jo
def pAdd (d1 d2:Array (Int×Int)) (n:Int):Bool:=may1 n && (inR d1 n || inR d2 n)
def qmz (d:Array (Int×Int)) (r:Int×Int) (n:Int):Bool:=inR d n && !qcg n r
def pGaps (d:Array (Int×Int)) (r:Int×Int) (n:Int):Bool:=may1 n && (qcg n r && !inR d n)
theorem qhe {n:Int}:may1 n=true↔1<=n/\n<=1000000:=by unfold may1;simp
theorem qxe (d:Array (Int×Int)) (r:Int×Int) (e:r.1<=r.2) (n:Int):∀ k,inR (qhz d r k) n=true↔(∃ j,j < k/\d[j]!.1<=n/\n<=d[j]!.2)/\¬ (r.1<=n/\n<=r.2)
 | 0=>by simp [qhz,inR]
 | k + 1=>by
   show inR (((qhz d r k).push _).push _) n=true↔_;rw [qls,qls,vcd,vcd,qxe d r e n k,qcp,qcp];simp only
   constructor
   .rintro ((⟨⟨j,c,a⟩,h⟩ | h) | h)
    .exact ⟨⟨j,by omega,a⟩,h⟩
    .exact ⟨⟨k,by omega,by omega⟩,by omega⟩
    exact ⟨⟨k,by omega,by omega⟩,by omega⟩
   rintro ⟨⟨j,c,a⟩,h⟩;rcases val j k with b | b
   .exact Or.inl (Or.inl ⟨⟨j,b,a⟩,h⟩)
   obtain rfl:j=k:=by omega
   omega
theorem less_fit {d out:Array (Int×Int)} {r:Int×Int} (g:qam d=0) (h:qia d r out):Fit (qmz d r) d out:=by
 have c:=NL.of_set g;unfold qia at h;split at h
 .rename_i f
  subst h;refine ⟨out,⟨c,fun n=>?_⟩,by rw [vam (qcy g).1]⟩;unfold qmz;cases i:inR out n
  .rfl
  have:=qib c i
  have e:qcg n r=false:=by
   rw [vbi];intro h;rw [qcp] at h;unfold qez at f;simp only at f;omega
  rw [e];rfl
 rename_i f;have j:1<=(qez r).1/\(qez r).2<=1000000:=by unfold qez;constructor <;> (simp only;omega)
 refine (h.fit (qqg g jo _ (vaa _))).congr fun n=>?_
 rw [vbd,qxe d _ jo,<-qim];unfold qmz;rw [vav,vdv,vbi,Ne,qcp]
 constructor
 .rintro ⟨a,b⟩
  have:=qib c a
  refine ⟨a,?_⟩;unfold qez at b;simp only at b;omega
 rintro ⟨a,b⟩;refine ⟨a,?_⟩;unfold qez;simp only;omega
def putL (n:Int):List Int->List Int
 | []=>[n]
 | x :: l=>if x < n then x :: putL n l else if x=n then x :: l else n :: x :: l
theorem qin (n:Int):∀ (l:List Int) (y:Int),y ∈ putL n l↔y=n\/y ∈ l
 | [],y=>by simp [putL]
 | x :: l,y=>by
   unfold putL;split
   .rw [vcb,qin n l y,vcb]
    constructor
    .rintro (h | h | h) <;> simp [h]
    rintro (h | h | h) <;> simp [h]
   split
   .rename_i h;subst h;simp
   simp
theorem qhf (n:Int):∀ (l:List Int),l.Pairwise (· < ·)->(putL n l).Pairwise (· < ·)
 | [],_=>by simp [putL]
 | x :: l,h=>by
   have b:=vbu.1 h;unfold putL;split
   .rename_i c
    rw [vbu];refine ⟨fun y a=>?_,qhf n l b.2⟩;rcases (qin n l y).1 a with rfl | a
    .exact c
    exact b.1 y a
   split
   .exact h
   rw [vbu];refine ⟨fun y a=>?_,h⟩;rcases vcb.1 a with rfl | a
   .omega
   have:=b.1 y a;omega
theorem qqh (n:Int):∀ (l:List Int) (k:Nat),k<=l.length->(∀ j (h:j < l.length),j < k->l[j] < n)->(∀ h:k < l.length,n<=l[k])->putL n l=if k < l.length/\l[k]! = n then l else l.take k ++ n :: l.drop k
 | [],k,hk,_,_=>by simp [putL]
 | x :: l,0,_,_,h2=>by
   have:=h2 js
   simp at this;unfold putL;rw [vao jo];by_cases e:x=n
   .rw [vam e,vam ⟨by simp,by simpa using e⟩]
   rw [vao e,vao (by rintro ⟨_,h⟩;exact e (by simpa using h))];simp
 | x :: l,k + 1,hk,h1,h2=>by
   have a:=h1 0 js jo;simp at a
   have:=qqh n l k (by simpa using hk) (fun j h c=>by have:=h1 (j + 1) (by simpa using h) jo;simpa using this) (fun h=>by have:=h2 (by simpa using h);simpa using this)
   unfold putL;rw [vam a,this];by_cases e:k < l.length/\l[k]! = n
   .rw [vam e,vam ⟨by simp;exact e.1,by simpa using e.2⟩]
   rw [vao e,vao (by rintro ⟨h,b⟩;exact e ⟨by simpa using h,by simpa using b⟩)];simp
def qbz (l:Array (Int×Int)):Nat->List Int
 | 0=>[1]
 | k + 1 =>
   let o:=if 1 < l[k]!.1/\l[k]!.1<=1000000 then putL l[k]!.1 (qbz l k) else qbz l k
   if 1<=l[k]!.2/\l[k]!.2 < 1000000 then putL (l[k]!.2 + 1) o else o
theorem qhg (l:Array (Int×Int)) (k:Nat):qbz l (k + 1)=(if 1<=l[k]!.2/\l[k]!.2 < 1000000 then putL (l[k]!.2 + 1) (if 1 < l[k]!.1/\l[k]!.1<=1000000 then putL l[k]!.1 (qbz l k) else qbz l k) else (if 1 < l[k]!.1/\l[k]!.1<=1000000 then putL l[k]!.1 (qbz l k) else qbz l k)):=rfl
theorem qka (n:Int):∀ l:List Int,(putL n l).length<=l.length + 1
 | []=>by simp [putL]
 | x :: l=>by
   have:=qka n l
   unfold putL;split
   .simp;omega
   split <;> simp
theorem qks (l:Array (Int×Int)):∀ k,(qbz l k).length<=2 * k + 1
 | 0=>by simp [qbz]
 | k + 1=>by
   have:=qks l k
   have a:=qka l[k]!.1 (qbz l k);rw [qhg];split
   .refine vax (qka _ _) ?_
    split <;> omega
   split <;> omega
theorem qfl (l:Array (Int×Int)):∀ k,(qbz l k).Pairwise (· < ·)
 | 0=>by simp [qbz]
 | k + 1=>by
   have:=qfl l k
   have a:=qhf l[k]!.1 _ this;rw [qhg];split
   .apply qhf
    split
    .exact a
    exact this
   split
   .exact a
   exact this
theorem qgs (l:Array (Int×Int)) (y:Int):∀ k,y ∈ qbz l k↔y=1\/∃ j,j < k/\((y=l[j]!.1/\1 < l[j]!.1/\l[j]!.1<=1000000)\/(y=l[j]!.2 + 1/\1<=l[j]!.2/\l[j]!.2 < 1000000))
 | 0=>by simp [qbz]
 | k + 1=>by
   have c:=qgs l y k;have step:y ∈ qbz l (k + 1)↔y ∈ qbz l k\/((y=l[k]!.1/\1 < l[k]!.1/\l[k]!.1<=1000000)\/(y=l[k]!.2 + 1/\1<=l[k]!.2/\l[k]!.2 < 1000000)):=by
    rw [qhg];split
    .rw [qin]
     split
     .rw [qin]
      constructor
      .rintro (h | h | h)
       .exact Or.inr (Or.inr ⟨h,by omega,by omega⟩)
       .exact Or.inr (Or.inl ⟨h,by omega,by omega⟩)
       exact Or.inl h
      rintro (h | h | h)
      .exact Or.inr (Or.inr h)
      .exact Or.inr (Or.inl h.1)
      exact Or.inl h.1
     constructor
     .rintro (h | h)
      .exact Or.inr (Or.inr ⟨h,by omega,by omega⟩)
      exact Or.inl h
     rintro (h | h | h)
     .exact Or.inr h
     .omega
     exact Or.inl h.1
    split
    .rw [qin]
     constructor
     .rintro (h | h)
      .exact Or.inr (Or.inl ⟨h,by omega,by omega⟩)
      exact Or.inl h
     rintro (h | h | h)
     .exact Or.inr h
     .exact Or.inl h.1
     omega
    constructor
    .exact Or.inl
    rintro (h | h | h)
    .exact h
    .omega
    omega
   rw [step,c]
   constructor
   .rintro ((h | ⟨j,b,h⟩) | h)
    .exact Or.inl h
    .exact Or.inr ⟨j,by omega,h⟩
    exact Or.inr ⟨k,by omega,h⟩
   rintro (h | ⟨j,b,h⟩)
   .exact Or.inl (Or.inl h)
   rcases val j k with a | a
   .exact Or.inl (Or.inr ⟨j,a,h⟩)
   obtain rfl:j=k:=by omega
   exact Or.inr h
def qaz (l:Array (Int×Int)):Array Int:=(qbz l l.size).toArray
theorem quw (l:Array (Int×Int)):(qaz l).size<=2 * l.size + 1:=by have:=qks l l.size;simpa [qaz] using this
theorem qgt (l:Array (Int×Int)):(qaz l).size=(qbz l l.size).length:=by simp [qaz]
theorem qfa (l:Array (Int×Int)) {i:Nat} (h:i < (qbz l l.size).length):(qaz l)[i]! = (qbz l l.size)[i]:=by
 show (qbz l l.size).toArray[i]! = _;rw [vae _ i (by simpa using h)];simp
def bndN (e:Array Int) (i:Nat):Int:=if i < e.size then e[i]! else 1000001
theorem qje (l:Array (Int×Int)) (i:Nat):1<=bndN (qaz l) i/\bndN (qaz l) i<=1000001/\(i < (qaz l).size->(qaz l)[i]!<=1000000):=by
 have:i < (qaz l).size->1<=(qaz l)[i]!/\(qaz l)[i]!<=1000000:=fun h=>by
  have:(qaz l)[i]! ∈ qbz l l.size:=by rw [qfa l (by rw [<-qgt];exact h)];simp
  rw [qgs] at this;rcases this with h | ⟨j,_,h | h⟩ <;> omega
 unfold bndN;split
 .rename_i h;have:=this h;exact ⟨this.1,by omega,fun _=>this.2⟩
 exact ⟨by omega,by omega,fun h=>(this h).2⟩
theorem bndN_zero (l:Array (Int×Int)):bndN (qaz l) 0=1:=by
 have b:=qje l 0;have f:(1:Int) ∈ qbz l l.size:=(qgs l 1 l.size).2 (Or.inl rfl);obtain ⟨i,a,e⟩:=vbt.1 f;have c:=qfl l l.size;rw [vbp] at c;have d:0 < (qaz l).size:=by unfold qaz;simp;omega
 unfold bndN at b |-
 rw [vam d] at b |-
 rcases vba i with rfl | g
 .rw [qfa l a];exact e
 have:=c 0 i jo a g
 rw [e] at this;have h:=qfa l (i:=0) jo;omega
theorem bndN_lt (l:Array (Int×Int)) {i:Nat} (h:i < (qaz l).size):(qaz l)[i]! < bndN (qaz l) (i + 1):=by
 have b:=(qje l i).2.2 h;unfold bndN;split
 .rename_i a
  have c:=qfl l l.size;rw [vbp] at c
  have:=c i (i + 1) (by simpa [qaz] using h) (by simpa [qaz] using a) jo
  rw [qfa l (by rw [<-qgt];exact h),qfa l (by rw [<-qgt];exact a)];exact this
 omega
theorem qxf (l:Array (Int×Int)) {i:Nat} (h:i < (qaz l).size) {y:Int} (n:y ∈ qbz l l.size) (g:(qaz l)[i]! < y):bndN (qaz l) (i + 1)<=y:=by
 obtain ⟨j,d,rfl⟩:=vbt.1 n;have b:=qfl l l.size;rw [vbp] at b;have c:i < (qbz l l.size).length:=by simpa [qaz] using h
 have e:=qfa l c;rw [e] at g;have m:i < j:=by
  rcases vfc i j with a | rfl | a
  .exact a
  .omega
  have:=b j i d c a;omega
 have k:i + 1 < (qaz l).size:=by simp [qaz];omega
 unfold bndN;rw [vam k];have f:=qfa l (i:=i + 1) jo;rw [f];rcases val (i + 1) j with a | a
 .have:=b (i + 1) j jo d a;omega
 obtain rfl:j=i + 1:=by omega
 exact vdo _
theorem qsf (l:Array (Int×Int)) {i:Nat} (h:i < (qaz l).size) {n:Int} (k:(qaz l)[i]!<=n) (m:n < bndN (qaz l) (i + 1)) {j:Nat} (c:j < l.size):qcg n l[j]! = qcg (qaz l)[i]! l[j]!:=by
 have b:=qje l (i + 1);have d:=qje l i;have g:1<=(qaz l)[i]!:=by have:=d.1;unfold bndN at this;rwa [vam h] at this
 rw [vbd,qcp,qcp]
 constructor
 .rintro ⟨e,f⟩
  refine ⟨?_,by omega⟩;rcases veu (qaz l)[i]! l[j]!.1 with a | a
  .have:=qxf l h ((qgs l _ _).2 (Or.inr ⟨j,c,Or.inl ⟨rfl,by omega,by omega⟩⟩)) a
   omega
  exact a
 rintro ⟨e,f⟩;refine ⟨by omega,?_⟩;rcases veu l[j]!.2 n with a | a
 .have:=qxf l h ((qgs l (l[j]!.2 + 1) _).2 (Or.inr ⟨j,c,Or.inr ⟨rfl,by omega,by omega⟩⟩)) jo
  omega
 exact a
def ofN (a b:Array (Int×Int)) (e:Array Int):Nat->Array (Int×Int)
 | 0=>#[]
 | i + 1=>if inR a e[i]! = false\/inR b e[i]! = true then ofN a b e i else
    if 0 < (ofN a b e i).size/\(ofN a b e i)[(ofN a b e i).size - 1]!.2 + 1=e[i]! then (ofN a b e i).set! ((ofN a b e i).size - 1) ((ofN a b e i)[(ofN a b e i).size - 1]!.1,bndN e (i + 1) - 1)
    else (ofN a b e i).push (e[i]!,bndN e (i + 1) - 1)
theorem qqi (a b:Array (Int×Int)) (e:Array Int) (i:Nat):ofN a b e (i + 1)=if inR a e[i]! = false\/inR b e[i]! = true then ofN a b e i else
 if 0 < (ofN a b e i).size/\(ofN a b e i)[(ofN a b e i).size - 1]!.2 + 1=e[i]! then (ofN a b e i).set! ((ofN a b e i).size - 1) ((ofN a b e i)[(ofN a b e i).size - 1]!.1,bndN e (i + 1) - 1)
 else (ofN a b e i).push (e[i]!,bndN e (i + 1) - 1):=rfl
def ofE (a b:Array (Int×Int)):Array (Int×Int):=ofN a b (qaz (a ++ b)) (qaz (a ++ b)).size
def pOf (a b:Array (Int×Int)) (n:Int):Bool:=may1 n && (inR a n && !inR b n)
theorem qsg (out:Array (Int×Int)) (d:0 < out.size) (v:Int×Int):∃ l y,out.toList=l ++ [y]/\out[out.size - 1]! = y/\(out.set! (out.size - 1) v).toList=l ++ [v]:=by
 have a:out.toList≠[]:=fun e=>by
  have c:out.toList.length=0:=by rw [e];rfl
  rw [ved] at c;omega
 have b:=(List.dropLast_concat_getLast a).symm;generalize out.toList.dropLast=l at b;generalize out.toList.getLast a=y at b;refine ⟨l,y,b,?_⟩;obtain rfl:out=(l ++ [y]).toArray:=by rw [<-b]
 refine ⟨?_,by simp⟩;rw [vae _ _ js];simp
theorem in_same {l:Array (Int×Int)} {n m:Int} (h:∀ j,j < l.size->qcg n l[j]! = qcg m l[j]!):inR l n=inR l m:=by
 rw [vbd,qim,qim]
 constructor
 .rintro ⟨j,a,b⟩
  exact ⟨j,a,qcp.1 (by rw [<-h j a];exact qcp.2 b)⟩
 rintro ⟨j,a,b⟩;exact ⟨j,a,qcp.1 (by rw [h j a];exact qcp.2 b)⟩
theorem ofN_ok (a b:Array (Int×Int)):∀ i,i<=(qaz (a ++ b)).size->NL (ofN a b (qaz (a ++ b)) i).toList/\(∀ y ∈ (ofN a b (qaz (a ++ b)) i).toList,y.2 < bndN (qaz (a ++ b)) i) /\
 ∀ n,inR (ofN a b (qaz (a ++ b)) i) n=true↔(1<=n/\n < bndN (qaz (a ++ b)) i)/\inR a n=true/\inR b n=false
 | 0,_=>by
   refine ⟨⟨by simp [ofN],by simp [ofN]⟩,by simp [ofN],fun n=>?_⟩;rw [bndN_zero];simp [ofN,inR];omega
 | i + 1,hi=>by
   have m:i < (qaz (a ++ b)).size:=by omega
   obtain ⟨o,r,J⟩:=ofN_ok a b i jo;have V:=qje (a ++ b) (i + 1);have F:=qje (a ++ b) i;have X:=bndN_lt (a ++ b) m;have be:bndN (qaz (a ++ b)) i=(qaz (a ++ b))[i]!:=by unfold bndN;rw [vam m]
   have M:∀ n,(qaz (a ++ b))[i]!<=n->n < bndN (qaz (a ++ b)) (i + 1)->inR a n=inR a (qaz (a ++ b))[i]!:=fun n g f=>in_same fun j H=>by
    have:=qsf (a ++ b) m g f (j:=j) jso
    have e:(a ++ b)[j]! = a[j]!:=by rw [vae (a ++ b) j jso,vae a j H,Array.getElem_append_left]
    rwa [e] at this
   have N:∀ n,(qaz (a ++ b))[i]!<=n->n < bndN (qaz (a ++ b)) (i + 1)->inR b n=inR b (qaz (a ++ b))[i]!:=fun n g f=>in_same fun j H=>by
    have:=qsf (a ++ b) m g f (j:=a.size + j) jso
    have e:(a ++ b)[a.size + j]! = b[j]!:=by rw [vae (a ++ b) _ jso,vae b j H,Array.getElem_append_right jo];simp
    rwa [e] at this
   rw [be] at F;have O:=F.1;have P:=F.2.2 m;rw [be] at r J;rw [qqi];generalize bndN (qaz (a ++ b)) (i + 1)=B at *;generalize (qaz (a ++ b))[i]! = E at *;generalize ofN a b (qaz (a ++ b)) i=d at *;by_cases G:inR a E=false\/inR b E=true
   .rw [vam G]
    refine ⟨o,fun y k=>by have:=r y k;omega,fun n=>?_⟩;rw [J]
    constructor
    .rintro ⟨g,f⟩;exact ⟨by omega,f⟩
    rintro ⟨g,f,C⟩;rcases veu n E with h | h
    .exact ⟨⟨g.1,h⟩,f,C⟩
    rw [M n h g.2] at f;rw [N n h g.2] at C;rcases G with s | s
    .rw [s] at f;cases f
    rw [s] at C;cases C
   rw [vao G];have Q:inR a E=true:=by cases h:inR a E <;> simp_all
   have R:inR b E=false:=by cases h:inR b E <;> simp_all
   have p:∀ n,((1<=n/\n < B)/\inR a n=true/\inR b n=false)↔inR d n=true\/(E<=n/\n < B):=by
    intro n;rw [J]
    constructor
    .rintro ⟨g,f⟩
     rcases veu n E with h | h
     .exact Or.inl ⟨⟨g.1,h⟩,f⟩
     exact Or.inr ⟨h,g.2⟩
    rintro (⟨g,f⟩ | h)
    .exact ⟨by omega,f⟩
    exact ⟨by omega,by rw [M n h.1 h.2];exact Q,by rw [N n h.1 h.2];exact R⟩
   by_cases t:0 < d.size/\d[d.size - 1]!.2 + 1=E
   .rw [vam t]
    obtain ⟨l,y,A,S,K⟩:=qsg d t.1 (d[d.size - 1]!.1,B - 1);rw [S] at K t |-
    unfold inR at p |-
    rw [K];rw [A] at o r p;have D:=vcm.1 o.2;have k:=o.1 y js;have U:=r y js;refine ⟨⟨fun z c=>?_,?_⟩,fun z c=>?_,fun n=>?_⟩
    .rcases vbw.1 c with c | c
     .exact o.1 z (by simp [c])
     simp at c;subst c;simp only;omega
    .rw [vcm]
     refine ⟨D.1,by simp,fun u I v x=>?_⟩;simp at x;subst x;exact D.2.2 u I y js
    .rcases vbw.1 c with c | c
     .have:=r z (by simp [c]);omega
     simp at c;subst c;simp only;omega
    rw [p n,vel,vel,vcd,vcd];simp only [vfg,List.any_nil,Bool.or_false];rw [qcp,qcp];simp only
    constructor
    .rintro (h | h)
     .exact Or.inl (Or.inl h)
     rcases veu n E with s | s
     .exact Or.inl (Or.inr jo)
     exact Or.inr jo
    rintro ((h | h) | h)
    .exact Or.inl h
    .exact Or.inr jo
    exact Or.inr jo
   rw [vao t];have q:∀ y ∈ d.toList,y.2 + 1 < E:=by
    intro y k;have L:0 < d.size:=by
     rcases vba d.size with h | h
     .rw [var h] at k;simp at k
     exact h
    obtain ⟨l,z,A,T,_⟩:=qsg d L (0,0);have c:z.2 + 1 < E:=by
     have:=r z (by rw [A];simp)
     have:z.2 + 1≠E:=fun h=>t ⟨L,by rw [T];exact h⟩
     omega
    rw [A] at k o;have D:=vcm.1 o.2;rcases vbw.1 k with k | k
    .have:=D.2.2 y k z js
     have:=o.1 z js
     omega
    simp at k;subst k;exact c
   refine ⟨⟨fun z c=>?_,?_⟩,fun z c=>?_,fun n=>?_⟩
   .rw [vdw] at c
    rcases vbw.1 c with c | c
    .exact o.1 z c
    simp at c;subst c;simp only;omega
   .rw [vdw,vcm]
    refine ⟨o.2,by simp,fun u I v x=>?_⟩;simp at x;subst x;exact q u I
   .rw [vdw] at c
    rcases vbw.1 c with c | c
    .have:=r z c;omega
    simp at c;subst c;simp only;omega
   rw [p n,qls,vcd,qcp];simp only
   constructor
   .rintro (h | h)
    .exact Or.inl h
    exact Or.inr jo
   rintro (h | h)
   .exact Or.inl h
   exact Or.inr jo
theorem ofE_isN (a b:Array (Int×Int)):IsN (pOf a b) (ofE a b):=by
 obtain ⟨d,_,e⟩:=ofN_ok a b _ (vaa _);refine ⟨d,fun n=>?_⟩;unfold ofE pOf;rw [vbd,e,vav,vav,qhe,vdv]
 have:bndN (qaz (a ++ b)) (qaz (a ++ b)).size=1000001:=by unfold bndN;rw [vao jo]
 rw [this]
 constructor
 .rintro ⟨h,c⟩;exact ⟨by omega,c⟩
 rintro ⟨h,c⟩;exact ⟨by omega,c⟩
def fitE (s was:Array (Int×Int)):Array (Int×Int):=if s.size<=1000 then s else was
theorem ofE_fit (a b was:Array (Int×Int)):Fit (pOf a b) was (fitE (ofE a b) was):=⟨_,ofE_isN a b,rfl⟩
theorem qoz (a b:Array (Int×Int)) (n:Int):inR (a ++ b) n=(inR a n || inR b n):=by unfold inR;simp
theorem inR_one (r:Int×Int) (n:Int):inR #[r] n=qcg n r:=by simp [inR]
theorem pOf_less {d:Array (Int×Int)} (a:qam d=0) (r:Int×Int) (n:Int):pOf d #[r] n=qmz d r n:=by
 unfold pOf qmz;rw [inR_one];cases h:inR d n
 .simp
 rw [qhe.2 (qib (NL.of_set a) h)];simp
theorem Fit.set {p:Int->Bool} {was out:Array (Int×Int)} (h:Fit p was out) (b:qam was=0):qam out=0:=by
 obtain ⟨s,a,rfl⟩:=h;split
 .rename_i h;exact a.1.set h
 exact b
theorem four_new (W:World) (H:Nat) (a:W.heap.size=H) (p q r s:Value) (t:TypeId):∀ j u,[p,q,r,s][j]?=some u->(W.alloc (.cells #[p,q,r,s] t)).cell? ((⟨H,0,none⟩:Addr).add j)=some u:=by
 intro j u b;subst a;rw [Addr.add_lit,vcc,qau];rw [<-b];simp
theorem qhh {w wr c:World} {B:Nat} {o b:Obj} {e:TypeId} {s n:Nat} {v:Value} {i:List Value} (f:Below B w wr) (d:B<=wr.heap.size) (a:wr.ownsRow B e s v n i) (g:((wr.alloc o).alloc b).grownBy c v.ownBlock):Below B w c :=
 ((f.alloc d o).alloc jso b).grown g jso (fun k h=>(a.lt k h).1)
theorem two_set {W:World} {b:Nat} {p q u v:Value} (a:W.cell? ⟨b,0,none⟩=some p) (c:W.cell? ⟨b,1,none⟩=some q) :
 ((W.setCell ⟨b,0,none⟩ u).setCell ⟨b,1,none⟩ v).cell? ⟨b,0,none⟩=some u/\((W.setCell ⟨b,0,none⟩ u).setCell ⟨b,1,none⟩ v).cell? ⟨b,1,none⟩=some v:=by
 constructor
 .rw [vcz]
  .apply World.cell?_setCell_same;exact a
  simp
 apply World.cell?_setCell_same (u:=q);rw [vcz]
 .exact c
 simp
theorem gLess_any (R:Option Addr) (c1:Nat) (a:Array (Int×Int)) (r:Int×Int) (w:World) (T:RdK encR 2 w.heap.size w R a) :
 Calls prog 218 #[.slice R a.size c1,.agg #[.int .i64 r.1,.int .i64 r.2]] w fun e w'=>∃ v c,e=.returned v/\(qam a=0->qia a r c)/\(qam a≠0->c=#[])/\w'.ownsRow w.heap.size 124 2 v c.size (flatK encR 2 c).toList/\Below w.heap.size w w':=by
 have r0:=hI ((T.alloc (vaa _) (.cells #[.int .i64 r.1,.int .i64 r.2] 124)).mono (show w.heap.size<=(w.alloc (.cells #[.int .i64 r.1,.int .i64 r.2] 124)).heap.size by simp));by_cases y:qam a=0
 .have hq:(qam a == 0)=true:=by simp [y]
  have b3:=(qcy y).1;have HO:=hI (fun r hr=>qqg (r:=r) y hr a.size (vaa _));have HK:=hI (fun k hk=>@zak a y k hk);have S:=hI y;obtain ⟨i0,a4,a9,b0,z⟩:=vbo qda;clear y;go_in;go_wp2_with fail;refine (qgc _ _ a _ r0.out).mono ?_;rintro e Y ⟨rfl,g⟩;have K:Y.cell? ⟨w.heap.size,0,none⟩=some (.int .i64 r.1):=(g.cell (p:=⟨w.heap.size,0,none⟩) js).trans (qau w #[.int .i64 r.1,.int .i64 r.2] _ 0);have L:Y.cell? ⟨w.heap.size,1,none⟩=some (.int .i64 r.2):=(g.cell (p:=⟨w.heap.size,1,none⟩) js).trans (qau w #[.int .i64 r.1,.int .i64 r.2] _ 1);go_wp2_with fail;refine (qxc r _).mono ?_;rintro e n ⟨rfl,l⟩;have s:w.heap.size < Y.heap.size:=by have:=g.size;simp at this;omega
  have D:n.heap[w.heap.size]?=some (.cells #[.int .i64 r.1,.int .i64 r.2] 124 (0,0)):=(l.block _ s).trans ((g.block _ js).trans (vaw w _));have M:n.cell? ⟨w.heap.size,0,none⟩=some (.int .i64 r.1):=(l.cell (p:=⟨w.heap.size,0,none⟩) s).trans K;have N:n.cell? ⟨w.heap.size,1,none⟩=some (.int .i64 r.2):=(l.cell (p:=⟨w.heap.size,1,none⟩) s).trans L;have a0:n.frozen? ⟨w.heap.size,0,none⟩=false:=by simp [World.frozen?,D]
  have a1:n.frozen? ⟨w.heap.size,1,none⟩=false:=by simp [World.frozen?,D]
  have O:Below w.heap.size w n:=qaa (qaa (bel1 _ _) g) l;have C:=hI O;have Z2:Hid (w.heap.size + 1<=n.heap.size):=vax s l.size;clear K L D g l;by_cases U:(qez r).2 < (qez r).1
  .have A:Hid (∀ c,c=a->qia a r c):=fun c h=>by unfold qia;rw [vam U];exact h
   generalize qez r=q at U;have j:Below w.heap.size w ((n.setCell ⟨w.heap.size,0,none⟩ (.int .i64 q.1)).setCell ⟨w.heap.size,1,none⟩ (.int .i64 q.2)):=(C.out.setCell (p:=⟨w.heap.size,0,none⟩) (vaa _) _).setCell (p:=⟨w.heap.size,1,none⟩) (vaa _) _;have HC:=hI (qxa R c1 a _ ((T.below j).mono j.size) jo);have I:=hI j;clear j;go_wp2_with fail;refine HC.out.mono ?_;rintro e w4 ⟨v,rfl,d,a2⟩;go_wp2;go_ret;exact ⟨v,a,rfl,fun _=>A.out a rfl,fun h=>absurd S.out h,qbx d I.out.size,qaa I.out a2⟩
  have A:Hid (∀ c,Formed (qhz a (qez r) a.size) a c->qia a r c):=fun c h=>by unfold qia;rw [vao U];exact h
  have B:1<=(qez r).1/\(qez r).2<=1000000:=by unfold qez;constructor <;> (simp only;omega)
  generalize qez r=q at U B A;have b6:decide (q.2 < q.1)=false:=by simp;omega
  have j:Below w.heap.size w ((n.setCell ⟨w.heap.size,0,none⟩ (.int .i64 q.1)).setCell ⟨w.heap.size,1,none⟩ (.int .i64 q.2)):=(C.out.setCell (p:=⟨w.heap.size,0,none⟩) (vaa _) _).setCell (p:=⟨w.heap.size,1,none⟩) (vaa _) _;have z:w.heap.size + 1<=n.heap.size:=by have:=C.out.size;have:=Z2.out;omega
  obtain ⟨V,X⟩:=two_set (u:=.int .i64 q.1) (v:=.int .i64 q.2) M N;have Q:w.heap.size + 1<=((n.setCell ⟨w.heap.size,0,none⟩ (.int .i64 q.1)).setCell ⟨w.heap.size,1,none⟩ (.int .i64 q.2)).heap.size:=by simpa [World.setCell] using z
  have Z:=hI B;go_wp2;generalize (n.setCell ⟨w.heap.size,0,none⟩ (.int .i64 q.1)).setCell ⟨w.heap.size,1,none⟩ (.int .i64 q.2)=W3 at j V X Q |-
  clear M N a0 a1 O z s
  go_loopw [5,22] (fun m i wr=>∃ k:Nat,k<=a.size/\i=.int .i64 k/\wr.ownsRow (w.heap.size + 1) 124 2 m (qhz a q k).size (flatK encR 2 (qhz a q k)).toList/\Below (w.heap.size + 1) W3 wr) (fun _ i _=>a.size - (intOf i).toNat)
  case atStart=>exact ⟨0,vaj _,rfl,qbk _ _ _ _ _,vag _ _⟩
  case round =>
   obtain ⟨k,hk,rfl,d,B⟩:=hrel;have ms:(qhz a q k).size<=2 * k:=vby (qoy a q k);have t:Below w.heap.size w wr:=j.trans (B.mono jo);have b1:w.heap.size + 1<=wr.heap.size:=vax Q B.size;by_cases P:k < a.size
   .obtain ⟨b,b7,rfl,_,f⟩:=(T.below t).at_ P
    have f0:=f 0 jo;have f1:=f 1 jo;have H:=HK.out k P;have A:Hid (qhz a q (k + 1)=((qhz a q k).push (a[k]!.1,min a[k]!.2 (q.1 - 1))).push (max a[k]!.1 (q.2 + 1),a[k]!.2)):=rfl;have a6:=H.1;have a7:=H.2.1;have a8:=H.2.2.1;clear H;generalize a[k]! = x at f0 f1 A a6 a7 a8;simp only [vak,encR,vac,vaf] at f0 f1;clear f;generalize qhz a q k=m at d A ms;obtain ⟨Am,cm,rfl,_,_⟩:=qaq d;have g0:wr.cell? ⟨w.heap.size,0,none⟩=some (.int .i64 q.1):=(B.cell (p:=⟨w.heap.size,0,none⟩) js).trans V;have g1:wr.cell? ⟨w.heap.size,1,none⟩=some (.int .i64 q.2):=(B.cell (p:=⟨w.heap.size,1,none⟩) js).trans X;have c0:∀ o,(wr.alloc o).cell? ⟨w.heap.size,0,none⟩=some (.int .i64 q.1):=fun o=>(vbq wr o ⟨w.heap.size,0,none⟩ (by show w.heap.size < _;omega)).trans g0
    have b2:∀ o,(wr.alloc o).cell? ⟨w.heap.size,1,none⟩=some (.int .i64 q.2):=fun o=>(vbq wr o ⟨w.heap.size,1,none⟩ (by show w.heap.size < _;omega)).trans g1
    have b4:=Z.out.1;have b5:=Z.out.2;have kz:(k:Int) < (a.size:Int):=by omega
    clear V X;go_wp2_with (at_builtin;refine vay _ rfl _ _ 64 rfl (w.heap.size + 1) 124 i0 (.agg #[.int .i64 0,.int .i64 0]) 2 16 underlying64 a4 a9 b0 z rfl jd _ _ _ rfl ((d.alloc _).alloc _) ⟨wr.heap.size + 1,0,none⟩ 2 2 [.int .i64 x.1,.int .i64 (min x.2 (q.1 - 1)),.int .i64 (max x.1 (q.2 + 1)),.int .i64 x.2] rfl rfl (four_new (wr.alloc _) _ js _ _ _ _ _) jV jl jo jso ?_;intro v' w4 F E _);exact ⟨⟨k + 1,by omega,by go_num,(by rw [A.out,vbk,vbk,qax qbj,qax qbj,veo];exact F),qhh B b1 d E⟩,by simp [intOf];omega⟩
   obtain rfl:k=a.size:=by omega
   have HR:=hI (HO.out q (jg Z.out));generalize hm:qhz a q a.size=m at d HR ms;have HE:=hI hm;clear hm;obtain ⟨Am,cm,rfl,a5,_⟩:=qaq d;have HF:=hI (qxb Am cm m R c1 a wr a5 ((T.below t).mono t.size) jo jo HR.out);have J:=hI t;clear V X;go_wp2_with fail;refine HF.out.mono ?_;rintro e w5 ⟨d',v,c,rfl,hS,ho,G,a3⟩;have H:Hid (Formed m a c):=⟨d',hS,ho⟩
   clear hS ho;go_wp2;go_ret;exact ⟨_,c,rfl,fun _=>A.out c (by rw [HE.out];exact H.out),fun h=>absurd S.out h,qbx G J.out.size,qaa J.out a3⟩
 have hq:(qam a == 0)=false:=by simpa using y
 have S:=hI y;clear y;go_in;go_wp2_with fail;refine (qgc _ _ a _ r0.out).mono ?_;rintro e Y ⟨rfl,g⟩;go_wp2;go_ret;exact ⟨_,#[],rfl,fun h=>absurd h S.out,fun _=>rfl,qbk _ _ _ _ _,qaa (bel1 _ _) g⟩
theorem gCut_any (g:Option Addr) (c1:Nat) (b:Array (Int×Int)) (n:Int) (w:World) (k:RdK encR 2 w.heap.size w g b) :
 Calls prog 159 #[.slice g b.size c1,.int .i64 n] w fun e j=>∃ v a,e=.returned v/\(qam b=0->qia b (1,n) a)/\(qam b≠0->a=#[])/\j.ownsRow w.heap.size 124 2 v a.size (flatK encR 2 a).toList/\Below w.heap.size w j:=by
 have H:=hI (gLess_any g c1 b (1,n) w k);go_in;go_wp2_with fail;refine H.out.mono ?_;rintro e m ⟨v,a,rfl,c,d,f,l⟩;have h:=hI c;have i:=hI d;clear c d;go_wp2;go_ret;exact ⟨v,a,rfl,h.out,i.out,f,l⟩
end Go.Proofs.YtdcfffhoajmafaaGreat
