/- Texts that the law leans on. -/
import Derived.Test.YtdcfffhoajmafaaGreatQStG
import Derived.Test.YtdcfffhoajmafaaGreatQOpenN
set_option maxRecDepth 100000
set_option maxHeartbeats 4000000
namespace Go.Proofs.YtdcfffhoajmafaaGreat
open Go.RowKit Go.Sort Go.Lib Go.Proofs.Tryz
attribute [local go_sem ↓] qap qan
attribute [local go_sem] qaw qej
theorem qvr (A:Option Addr) (c:Nat) (s:Array Int) (x:Int) (B:Nat) (w:World) (h:RdI_R B w A s) (k:s.size<=100000000) :
 Calls prog 169 #[.slice A s.size c,.int .i64 x] w fun e i=>e=.returned (.bool (s.toList.contains x))/\i=w:=by
 rcases vba s.size with d | d
 .obtain rfl:s=#[]:=var d
  exact slices_Contains_int_empty A c x w
 obtain ⟨b,o,rfl,_,f⟩:=h d
 have:=slices_Contains_int b o s.size c s.toList x w js jo (fun j g=>by
  have a:j < s.size:=by simpa using g
  rw [f j a,vae s j a];simp [a])
 rw [vaz js] at this;exact this
def qkz (r:RP):Array Int:=fmT (fun x=>qkb x.ph) EN.id r.e.z
theorem zbd (r:RP):(qkz r).size<=r.e.z.size:=fmT_size _ _ _
theorem overB_iff (r:RP) (id:Int):overB r id=((qkz r).toList.contains id || doneI r id):=by
 unfold overB qkz fmT;congr 1;rw [vbd];simp only [vca,vav,vef,vct,vcp,vck]
 constructor
 .rintro ⟨x,c,a,b⟩;exact ⟨x,⟨c,a⟩,b⟩
 rintro ⟨x,⟨c,a⟩,b⟩;exact ⟨x,c,a,b⟩
theorem over1_any (r:RP) (x:Int) (A:Option Addr) (c:Nat) (j g2:Nat) (w:World) (y:j < w.heap.size) (z:w.cell? ⟨j,0,none⟩=some (.slice A (qkz r).size c)) (b:w.heap[g2]?=some (.cells (encP r).toArray 35 (0,0))) (o:RdI_R w.heap.size w A (qkz r)) (h:RdP w r) (k:FewC r) (n:(r.d.z.size:Int)=r.n) :
 Calls prog 173 #[.int .i64 x,.pointer (some ⟨j,0,none⟩),.pointer (some ⟨g2,0,none⟩)] w fun e v=>e=.returned (.bool (!overB r x))/\Below w.heap.size w v:=by
 have f:Hid (overB r x=((qkz r).toList.contains x || doneI r x)):=overB_iff r x;have l:=hI (qvr A c (qkz r) x _ w o (by have:=zbd r;have:=k.es;omega));have d:=hI (done0_any r x w h.d.rd (fun i s=>(h.dd i s).rd) n (jg k.d));obtain ⟨g,a⟩:∃ g,g=(encP r).toArray:=⟨_,rfl⟩
 have q:g.size=18:=by rw [a];rfl
 rw [<-a] at b d;have C:=qdx b q;have D:=qef b;generalize (qkz r).toList.contains x=t at f l;generalize doneI r x=u at f d;clear o h k n b a;cases t <;> cases u
 all_goals
  go_in
  go_wp2_with (first
   | (go_at_call 169;refine l.out.mono ?_;rintro _ _ ⟨rfl,rfl⟩)
   | (go_at_call 174;refine d.out.mono ?_;rintro _ B ⟨rfl,m⟩;have p:=hI m;clear m))
  go_ret;exact ⟨qad (by rw [f.out];rfl),by first | exact p.out | exact vag _ _⟩
theorem idxJ_0 (A:Option Addr) (a:Value) (c:Nat) (w:World) :
 Calls prog 219 #[.slice A 0 c,a] w fun e b=>e=.returned (.int .i64 (-1))/\w=b:=by
 go_in;go_wp2;refine vdi 1 ?_;rw [vcy];go_wp2;go_ret;exact ⟨rfl,rfl⟩
theorem delJ_0 (A:Option Addr) (b:Value) (c:Nat) (w:World) :
 Calls prog 171 #[.slice A 0 c,b] w fun e a=>e=.returned (.slice A 0 c)/\w=a:=by
 go_in;go_wp2_with (go_at_call 219;refine (idxJ_0 _ _ _ _).mono ?_;rintro e a ⟨rfl,rfl⟩);go_ret;exact ⟨rfl,rfl⟩
theorem holdsJ {w:World} {g:Nat} {s:Array Int} (h:Holds (Value.int .i64) w g 0 s):HoldsK qen 1 w g 0 s:=by
 intro t b;rw [size_flatK] at b;have a:=h t jo;rw [get_flatK _ _ _ _ jo,vfb,Nat.div_one];exact a
theorem delJ_own (p:Int->Bool) (g:Nat) (lb:Array Value) (q:∀ a w,(callFunc g a).run prog w=.ok (.enter g a) w) (A:Option Addr) (c B:Nat) (s:Array Int) (w:World)
 (y:∀ W x,(∀ i,i < B->W.heap[i]?=w.heap[i]?)->B<=W.heap.size->W.os=w.os->W.tape=w.tape->W.output=w.output->Calls prog g (#[.int .i64 x] ++ lb) W fun e f=>e=.returned (.bool (p x))/\Below W.heap.size W f)
 (r:OwnB B w A c s) (n:B<=w.heap.size) (m:s.size<=1000000) :
 Calls prog 171 #[.slice A s.size c,.func (.func g) #[] lb] w fun e f=>e=.returned (.slice A (s.toList.filter fun x=>!p x).toArray.size c)/\RdI_R f.heap.size f A (s.toList.filter fun x=>!p x).toArray/\Below B w f:=by
 rcases r with rfl | ⟨b,rfl,t,l,u,v⟩
 .exact (delJ_0 A _ c w).mono fun e f ⟨j,C⟩=>⟨j,fun h=>by simp at h,C ▸ vag _ _⟩
 refine (intDel p g lb q b 0 c s w (fun W x d=>y W x (fun i D=>d.block i jo jso) (vax n d.size) d.os d.tape d.output) (holdsJ u) l m v).mono fun e f ⟨j,d,z⟩=>⟨j,rdJ_T z,(vag B w).grown d n (fun k o=>?_)⟩
 injection o with o
 omega
theorem over_of {r:RP} {k:KN} {s:Array Int} (a:chkB k=true) (h:OpenR k s):qnm r k (s.toList.filter fun x=>overB r x).toArray:=by
 intro x;show x ∈ List.filter _ _↔_;rw [vck,h.mem,a];simp
theorem over_any (r:RP) (v:Value) (k:KN) (w:World) (h:RdP w r) (hk:KnV w v k) (hf:FewC r) (hd:(r.d.z.size:Int)=r.n) (hc:chkB k=true) (s2:k.ats.size<=1000) :
 Calls prog 86 #[.agg (encP r).toArray,v] w fun e b=>(∃ A s c,e=.returned (.slice A s.size c)/\qnm r k s/\RdI_R b.heap.size b A s/\s.size<=1000)/\Below w.heap.size w b:=by
 have R:Hid (∀ s,OpenR k s->qnm r k (s.toList.filter fun x=>overB r x).toArray):=fun s hs=>over_of hc hs
 have z:Hid (∀ W,Below w.heap.size w W->Calls prog 172 #[v] W fun e b=>(∃ A s c,e=.returned (.slice A s.size c)/\OpenR k s/\RdI_R b.heap.size b A s/\s.size<=k.ats.size/\OwnB W.heap.size b A c s)/\Below W.heap.size W b):=fun W a=>qyk v k W (hk.below a) jo
 have t:Hid (∀ W,Below w.heap.size w W->Calls prog 170 #[.slice r.e.A r.e.z.size r.e.c] W fun e b=>(∃ d j,e=.returned (.slice d (qkz r).size j)/\RdK qen 1 b.heap.size b d (qkz r))/\Below W.heap.size W b):=fun W a=>tSetl_any r.e.A r.e.c r.e.z W (h.e.below a).rd (jg hf.es)
 have I:Hid (∀ (W:World) (x:Int) (A:Option Addr) (c E J:Nat),Below w.heap.size w W->E < W.heap.size->W.cell? ⟨E,0,none⟩=some (.slice A (qkz r).size c)->W.heap[J]?=some (.cells (encP r).toArray 35 (0,0))->RdI_R W.heap.size W A (qkz r)->Calls prog 173 #[.int .i64 x,.pointer (some ⟨E,0,none⟩),.pointer (some ⟨J,0,none⟩)] W fun e b=>e=.returned (.bool (!overB r x))/\Below W.heap.size W b) :=
  fun W x A c E J a a1 a2 a3 a4=>over1_any r x A c E J W a1 a2 a3 a4 (h.below a) hf hd
 obtain ⟨D,f⟩:∃ D,D=(encP r).toArray:=⟨_,rfl⟩
 have q7:D[7]?=some (.slice r.e.A r.e.z.size r.e.c):=by rw [f];rfl
 have S:=hI q7;rw [<-f] at I |-
 obtain ⟨base,rs,u⟩:=k;obtain ⟨M,Z,N,c2,rfl,k1,k2,n1,n2⟩:=hk;generalize qkz r=o at t I;clear h hf hd hc k1 k2 n1 n2 q7;simp only [encP] at f;rw [f];go_in;rw [<-f];clear f;have Y:=hI (BoxG.fst w D #[.int .i64 base,.slice M rs.size Z,.slice N u.size c2] 35 66);have HY:=hI (BoxG.snd w D #[.int .i64 base,.slice M rs.size Z,.slice N u.size c2] 35 66);have c7:=Y.out.at_ 7 S.out;go_wp2_with fail;refine (t.out _ Y.out.b).mono ?_;rintro _ g ⟨⟨d,j,rfl,hr⟩,a⟩;have C:=hI (Y.out.next a);have m:=hI (HY.out.next a);have T:=hI (rdJ_T hr);have z0:=m.out.at_ 0 (v:=.int .i64 base) rfl;have z1:=m.out.at_ 1 (v:=.slice M rs.size Z) rfl;have z2:=m.out.at_ 2 (v:=.slice N u.size c2) rfl;have a7:=C.out.lt;have a8:=m.out.lt;clear hr a c7;go_wp2_with fail;have l:=hI (C.out.next (bel1 g (.cells #[.slice d o.size j] 26)));have Q:Hid ((g.alloc (.cells #[.slice d o.size j] 26)).heap[g.heap.size]?=some (.cells #[.slice d o.size j] 26 (0,0))):=vaw g _;have U:=hI ((T.out.below (bel1 g (.cells #[.slice d o.size j] 26))).mono (bel1 g (.cells #[.slice d o.size j] 26)).size);refine (z.out _ l.out.b).mono ?_;rintro _ w2 ⟨⟨A3,L,c3,rfl,K,a5,a6,q⟩,a⟩;have a9:=hI (l.out.next a);have F:g.heap.size < (g.alloc (.cells #[.slice d o.size j] 26)).heap.size:=by simp
 have a0:w.heap.size < (g.alloc (.cells #[.slice d o.size j] 26)).heap.size:=by simp;omega
 have HD:=hI (delJ_own (fun x=>!overB r x) 173 #[.pointer (some ⟨g.heap.size,0,none⟩),.pointer (some ⟨w.heap.size,0,none⟩)] (veb func173 jk rfl) A3 c3 _ L w2
  (fun W x hW y K ht hu=>by
    have n:Below (g.alloc (.cells #[.slice d o.size j] 26)).heap.size (g.alloc (.cells #[.slice d o.size j] 26)) W:=⟨K.trans a.os,ht.trans a.tape,hu.trans a.output,y,fun i hi=>(hW i hi).trans (a.block i hi)⟩
    refine I.out W x d j _ _ (qaa l.out.b n) (vad F y) ?_ ?_ ((U.out.below n).mono y)
    .rw [n.cell (p:=⟨g.heap.size,0,none⟩) F,vas _ _ 0 _ _ (0,0) Q.out];rfl
    exact (n.block _ a0).trans l.out.row)
  q a.size jo)
 simp only [Bool.not_not] at HD;have P:=hI a;have B:=hI (R.out L K);have H:=vcf (fun x=>overB r x) L.toList;have X:Hid ((L.toList.filter fun x=>overB r x).toArray.size<=1000):=by
  show _<=_;simp at H |-
  omega
 clear K a5 a6 q a H z t I;go_wp2_with fail;refine HD.out.mono ?_;rintro _ w3 ⟨rfl,G,a⟩;have V:=hI G;have O:=hI a;clear G a;go_wp2;go_ret;exact ⟨⟨A3,_,c3,rfl,B.out,V.out,X.out⟩,qaa l.out.b (P.out.trans O.out)⟩
end Go.Proofs.YtdcfffhoajmafaaGreat
namespace Go.Proofs.YtdcfffhoajmafaaGreat
open Go.ChangeShapes Go.WideShapes Go.ChangeAt Go.RowKit Go.Deep Go.Joins Go.Proofs.Tryz
section
variable {H:Type} {enc:TypeId×Value->H} {P:Program} {w:World} {base:Nat} {sp:Nat->Bool} {held:Bool}
theorem qfc {t:TypeId} {b:Array Field} {n:Nat} {cs:List Value} {x:DataW H×List MemPlace} (r:P.underlying t=some (.struct b))
 (h:DataW.trod enc P w base sp held n t cs=some x):cs.length=P.cellsOf t/\∀ (j o:Nat) (u:TypeId),(b[j]?).map (fun f=>(f.offset,f.type))=some (o,u)->∃ y m,DataW.trod enc P w base sp held m u ((cs.drop o).take (P.cellsOf u))=some y:=by
 obtain ⟨g,m,_,_,c,k,l⟩:=DataW.trod_struct r h;refine ⟨c,fun j o u p=>?_⟩;obtain ⟨f,a,d⟩:=Option.map_eq_some_iff.1 p;injection d with e1 e2
 have q:j < b.size:=(vbm.1 a).1;have i:=l j f a;rw [e1,e2] at i;have e:g[j]?=some (g[j]'(by omega)):=vbl jo;exact ⟨g[j]'(by omega),m,i.trans e⟩
theorem qnr {t e:TypeId} {n:Nat} {cs:List Value} {x:DataW H×List MemPlace} (d:P.underlying t=some (.slice e)) (h:DataW.trod enc P w base sp held n t cs=some x):∃ v,cs=[v]:=by
 rcases DataW.trod_slice d h with ⟨b,_⟩ | ⟨a,f,c,_,_,_,_,b,_⟩
 .exact ⟨_,b⟩
 exact ⟨_,b⟩
end
theorem qca:prog.cellsOf 3 = 1:=by kernel_rfl
section
variable {H:Type} {enc:TypeId×Value->H} {w:World}
theorem qxx {B:Nat} {w:World} {A:Option Addr} {d:Array Int} (h:RdK qen 1 B w A d):RdI_R B w A d:=fun f=>by
 obtain ⟨b,c,e,a,g⟩:=h f;refine ⟨b,c,e,a,fun i j=>?_⟩;rw [g i jo,Go.Sort.get_flatK _ _ _ _ jo,vfb,Nat.div_one];rfl
theorem prRUnd:prog.underlying 124 = some (.struct (prog.fieldsOf 124)):=by kernel_rfl
theorem prRTys:(prog.fieldsOf 124).map (fun f=>(f.offset,f.type))=#[(0,3),(1,3)]:=by kernel_rfl
theorem prRCel:prog.cellsOf 124 = 2:=by kernel_rfl
theorem qxy {n:Nat} {cs:List Value} {x:DataW H×List MemPlace} (h:DataW.trod enc prog w 0 (fun _=>true) true n 124 cs=some x):∃ a:Int×Int,cs=encR a/\True:=by
 obtain ⟨b,f⟩:=qfc prRUnd h;rw [prRCel] at b;have c:∀ j o u,(#[(0,3),(1,3)]:Array (Nat×TypeId))[j]?=some (o,u)->∃ y m,DataW.trod enc prog w 0 (fun _=>true) true m u ((cs.drop o).take (prog.cellsOf u))=some y:=fun j o u g=>f j o u (by rw [<-prRTys,vcv] at g;exact g)
 clear f h;obtain ⟨i,cs,rfl⟩:=vai b;have b:=vbs b;obtain ⟨k,cs,rfl⟩:=vai b;have b:=vbs b;obtain rfl:cs=[]:=vcg b;obtain ⟨_,_,d⟩:=c 0 0 _ rfl;rw [qca] at d;obtain ⟨l,rfl⟩:=qah underlying3 (d:DataW.trod _ _ _ _ _ _ _ _ [i]=some _);obtain ⟨_,_,e⟩:=c 1 1 _ rfl;rw [qca] at e;obtain ⟨p,rfl⟩:=qah underlying3 (e:DataW.trod _ _ _ _ _ _ _ _ [k]=some _);exact ⟨(l,p),rfl,trivial⟩
theorem prAUnd:prog.underlying 29 = some (.struct (prog.fieldsOf 29)):=by kernel_rfl
theorem prATys:(prog.fieldsOf 29).map (fun f=>(f.offset,f.type))=#[(0,3),(1,3)]:=by kernel_rfl
theorem qth:prog.cellsOf 29 = 2:=by kernel_rfl
theorem qlx {n:Nat} {cs:List Value} {x:DataW H×List MemPlace} (h:DataW.trod enc prog w 0 (fun _=>true) true n 29 cs=some x):∃ a:Int×Int,cs=qae a/\True:=by
 obtain ⟨b,f⟩:=qfc prAUnd h;rw [qth] at b;have c:∀ j o u,(#[(0,3),(1,3)]:Array (Nat×TypeId))[j]?=some (o,u)->∃ y m,DataW.trod enc prog w 0 (fun _=>true) true m u ((cs.drop o).take (prog.cellsOf u))=some y:=fun j o u g=>f j o u (by rw [<-prATys,vcv] at g;exact g)
 clear f h;obtain ⟨i,cs,rfl⟩:=vai b;have b:=vbs b;obtain ⟨k,cs,rfl⟩:=vai b;have b:=vbs b;obtain rfl:cs=[]:=vcg b;obtain ⟨_,_,d⟩:=c 0 0 _ rfl;rw [qca] at d;obtain ⟨l,rfl⟩:=qah underlying3 (d:DataW.trod _ _ _ _ _ _ _ _ [i]=some _);obtain ⟨_,_,e⟩:=c 1 1 _ rfl;rw [qca] at e;obtain ⟨p,rfl⟩:=qah underlying3 (e:DataW.trod _ _ _ _ _ _ _ _ [k]=some _);exact ⟨(l,p),rfl,trivial⟩
theorem keUnd:prog.underlying 66 = some (.struct (prog.fieldsOf 66)):=by kernel_rfl
theorem keTys:(prog.fieldsOf 66).map (fun f=>(f.offset,f.type))=#[(0,3),(1,64),(2,23)]:=by kernel_rfl
theorem keCel:prog.cellsOf 66 = 3:=by kernel_rfl
theorem trod_ke {n:Nat} {cs:List Value} {x:DataW H×List MemPlace} (h:DataW.trod enc prog w 0 (fun _=>true) true n 66 cs=some x):∃ a:KE,cs=qav a/\RdKE w a:=by
 obtain ⟨b,g⟩:=qfc keUnd h;rw [keCel] at b;have c:∀ j o u,(#[(0,3),(1,64),(2,23)]:Array (Nat×TypeId))[j]?=some (o,u)->∃ y m,DataW.trod enc prog w 0 (fun _=>true) true m u ((cs.drop o).take (prog.cellsOf u))=some y:=fun j o u i=>g j o u (by rw [<-keTys,vcv] at i;exact i)
 clear g h;obtain ⟨q,cs,rfl⟩:=vai b;have b:=vbs b;obtain ⟨r,cs,rfl⟩:=vai b;have b:=vbs b;obtain ⟨s,cs,rfl⟩:=vai b;have b:=vbs b;obtain rfl:cs=[]:=vcg b;obtain ⟨_,_,d⟩:=c 0 0 _ rfl;rw [qca] at d;obtain ⟨C,rfl⟩:=qah underlying3 (d:DataW.trod _ _ _ _ _ _ _ _ [q]=some _);obtain ⟨_,_,e⟩:=c 1 1 _ rfl;rw [show prog.cellsOf 64 = 1 by kernel_rfl] at e;obtain ⟨l,t,D,rfl,A,F,s1,n1⟩:=qdp (en:=encR) (k:=2) (Q:=fun _=>True) underlying64 prRCel (fun _=>rfl) jd (fun _ _ _ h=>qxy h) (e:DataW.trod _ _ _ _ _ _ _ _ [r]=some _);obtain ⟨_,_,f⟩:=c 2 2 _ rfl;rw [show prog.cellsOf 23 = 1 by kernel_rfl] at f;obtain ⟨p,v,E,rfl,B,G,I,z⟩:=qdp (en:=qae) (k:=2) (Q:=fun _=>True) underlying23 qth (fun _=>rfl) jd (fun _ _ _ h=>qlx h) (f:DataW.trod _ _ _ _ _ _ _ _ [s]=some _);exact ⟨⟨C,⟨l,t,D⟩,⟨p,v,E⟩⟩,rfl,⟨A,n1⟩,⟨B,z⟩⟩
theorem itmUnd:prog.underlying 332 = some (.struct (prog.fieldsOf 332)):=by kernel_rfl
theorem itmTys:(prog.fieldsOf 332).map (fun f=>(f.offset,f.type))=#[(0,3),(1,3),(2,3),(3,3)]:=by kernel_rfl
theorem itmCel:prog.cellsOf 332 = 4:=by kernel_rfl
theorem trod_itm {n:Nat} {cs:List Value} {x:DataW H×List MemPlace} (h:DataW.trod enc prog w 0 (fun _=>true) true n 332 cs=some x):∃ a:IT,cs=encIT a/\True:=by
 obtain ⟨b,i⟩:=qfc itmUnd h;rw [itmCel] at b;have c:∀ j o u,(#[(0,3),(1,3),(2,3),(3,3)]:Array (Nat×TypeId))[j]?=some (o,u)->∃ y m,DataW.trod enc prog w 0 (fun _=>true) true m u ((cs.drop o).take (prog.cellsOf u))=some y:=fun j o u k=>i j o u (by rw [<-itmTys,vcv] at k;exact k)
 clear i h;obtain ⟨l,cs,rfl⟩:=vai b;have b:=vbs b;obtain ⟨p,cs,rfl⟩:=vai b;have b:=vbs b;obtain ⟨q,cs,rfl⟩:=vai b;have b:=vbs b;obtain ⟨r,cs,rfl⟩:=vai b;have b:=vbs b;obtain rfl:cs=[]:=vcg b;obtain ⟨_,_,d⟩:=c 0 0 _ rfl;rw [qca] at d;obtain ⟨s,rfl⟩:=qah underlying3 (d:DataW.trod _ _ _ _ _ _ _ _ [l]=some _);obtain ⟨_,_,e⟩:=c 1 1 _ rfl;rw [qca] at e;obtain ⟨t,rfl⟩:=qah underlying3 (e:DataW.trod _ _ _ _ _ _ _ _ [p]=some _);obtain ⟨_,_,f⟩:=c 2 2 _ rfl;rw [qca] at f;obtain ⟨v,rfl⟩:=qah underlying3 (f:DataW.trod _ _ _ _ _ _ _ _ [q]=some _);obtain ⟨_,_,g⟩:=c 3 3 _ rfl;rw [qca] at g;obtain ⟨z,rfl⟩:=qah underlying3 (g:DataW.trod _ _ _ _ _ _ _ _ [r]=some _);exact ⟨⟨s,t,v,z⟩,rfl,trivial⟩
theorem sesUnd:prog.underlying 334 = some (.struct (prog.fieldsOf 334)):=by kernel_rfl
theorem sesTys:(prog.fieldsOf 334).map (fun f=>(f.offset,f.type))=#[(0,3),(1,3),(2,9)]:=by kernel_rfl
theorem sesCel:prog.cellsOf 334 = 3:=by kernel_rfl
theorem trod_ses {n:Nat} {cs:List Value} {x:DataW H×List MemPlace} (h:DataW.trod enc prog w 0 (fun _=>true) true n 334 cs=some x):∃ a:SS,cs=encSS a/\True:=by
 obtain ⟨b,g⟩:=qfc sesUnd h;rw [sesCel] at b;have c:∀ j o u,(#[(0,3),(1,3),(2,9)]:Array (Nat×TypeId))[j]?=some (o,u)->∃ y m,DataW.trod enc prog w 0 (fun _=>true) true m u ((cs.drop o).take (prog.cellsOf u))=some y:=fun j o u i=>g j o u (by rw [<-sesTys,vcv] at i;exact i)
 clear g h;obtain ⟨k,cs,rfl⟩:=vai b;have b:=vbs b;obtain ⟨l,cs,rfl⟩:=vai b;have b:=vbs b;obtain ⟨p,cs,rfl⟩:=vai b;have b:=vbs b;obtain rfl:cs=[]:=vcg b;obtain ⟨_,_,d⟩:=c 0 0 _ rfl;rw [qca] at d;obtain ⟨q,rfl⟩:=qah underlying3 (d:DataW.trod _ _ _ _ _ _ _ _ [k]=some _);obtain ⟨_,_,e⟩:=c 1 1 _ rfl;rw [qca] at e;obtain ⟨r,rfl⟩:=qah underlying3 (e:DataW.trod _ _ _ _ _ _ _ _ [l]=some _);obtain ⟨_,_,f⟩:=c 2 2 _ rfl;rw [show prog.cellsOf 9 = 1 by kernel_rfl] at f;obtain ⟨s,rfl⟩:=qgy underlying9 (f:DataW.trod _ _ _ _ _ _ _ _ [p]=some _);exact ⟨⟨q,r,s⟩,rfl,trivial⟩
theorem trod_iv {n:Nat} {cs:List Value} {x:DataW H×List MemPlace} (h:DataW.trod enc prog w 0 (fun _=>true) true n 3 cs=some x):∃ a:Int,cs=qen a/\True:=by
 obtain ⟨a,b,_,_⟩:=DataW.trod_int underlying3 h;exact ⟨a,b,trivial⟩
theorem trod_il {n:Nat} {cs:List Value} {x:DataW H×List MemPlace} (h:DataW.trod enc prog w 0 (fun _=>true) true n 26 cs=some x):∃ a:RW Int,cs=encW a/\RdJ w a:=by
 obtain ⟨v,rfl⟩:=qnr underlying26 h;obtain ⟨A,c,z,rfl,r,_,s,b⟩:=qdp (en:=qen) (k:=1) (Q:=fun _=>True) underlying26 qca (fun _=>rfl) jd (fun _ _ _ h=>trod_iv h) h;exact ⟨⟨A,c,z⟩,rfl,qxx r,s,b⟩
theorem trod_rl {n:Nat} {cs:List Value} {x:DataW H×List MemPlace} (h:DataW.trod enc prog w 0 (fun _=>true) true n 64 cs=some x):∃ a:RW (Int×Int),cs=encW a/\RdW encR 2 w a:=by
 obtain ⟨v,rfl⟩:=qnr underlying64 h;obtain ⟨A,c,z,rfl,r,_,s,b⟩:=qdp (en:=encR) (k:=2) (Q:=fun _=>True) underlying64 prRCel (fun _=>rfl) jd (fun _ _ _ h=>qxy h) h;exact ⟨⟨A,c,z⟩,rfl,r,s,b⟩
def encSto (x:RW IT×RW SS):List Value:=[x.1.v,x.2.v]
theorem stoUnd:prog.underlying 33 = some (.struct (prog.fieldsOf 33)):=by kernel_rfl
theorem stoTys:(prog.fieldsOf 33).map (fun f=>(f.offset,f.type))=#[(0,30),(1,31)]:=by kernel_rfl
theorem stoCel:prog.cellsOf 33 = 2:=by kernel_rfl
theorem trod_sto {n:Nat} {cs:List Value} {x:DataW H×List MemPlace} (h:DataW.trod enc prog w 0 (fun _=>true) true n 33 cs=some x):∃ a:RW IT×RW SS,cs=encSto a/\(RdW encIT 4 w a.1/\RdW encSS 3 w a.2):=by
 obtain ⟨b,f⟩:=qfc stoUnd h;rw [stoCel] at b;have c:∀ j o u,(#[(0,30),(1,31)]:Array (Nat×TypeId))[j]?=some (o,u)->∃ y m,DataW.trod enc prog w 0 (fun _=>true) true m u ((cs.drop o).take (prog.cellsOf u))=some y:=fun j o u g=>f j o u (by rw [<-stoTys,vcv] at g;exact g)
 clear f h;obtain ⟨p,cs,rfl⟩:=vai b;have b:=vbs b;obtain ⟨q,cs,rfl⟩:=vai b;have b:=vbs b;obtain rfl:cs=[]:=vcg b;obtain ⟨_,_,d⟩:=c 0 0 _ rfl;rw [show prog.cellsOf 30 = 1 by kernel_rfl] at d;obtain ⟨i,r,A,rfl,v,C,s0,t⟩:=qdp (en:=encIT) (k:=4) (Q:=fun _=>True) underlying30 itmCel encIT_len jd (fun _ _ _ h=>trod_itm h) (d:DataW.trod _ _ _ _ _ _ _ _ [p]=some _);obtain ⟨_,_,e⟩:=c 1 1 _ rfl;rw [show prog.cellsOf 31 = 1 by kernel_rfl] at e;obtain ⟨l,s,B,rfl,z,D,s1,n1⟩:=qdp (en:=encSS) (k:=3) (Q:=fun _=>True) underlying31 sesCel encSS_len jd (fun _ _ _ h=>trod_ses h) (e:DataW.trod _ _ _ _ _ _ _ _ [q]=some _);exact ⟨(⟨i,r,A⟩,⟨l,s,B⟩),rfl,⟨v,s0,t⟩,⟨z,s1,n1⟩⟩
theorem repUnd:prog.underlying 35 = some (.struct (prog.fieldsOf 35)):=by kernel_rfl
theorem repTys:(prog.fieldsOf 35).map (fun f=>(f.offset,f.type))=#[(0,3),(1,3),(2,3),(3,3),(4,3),(5,3),(6,3),(7,22),(8,23),(9,24),(10,25),(11,26),(12,27),(13,29),(15,3),(16,33)]:=by kernel_rfl
theorem repCel:prog.cellsOf 35 = 18:=by kernel_rfl
theorem trod_rep {n:Nat} {cs:List Value} {x:DataW H×List MemPlace} (h:DataW.trod enc prog w 0 (fun _=>true) true n 35 cs=some x):∃ a:RP,cs=encP a/\RdP w a:=by
 obtain ⟨b,hf⟩:=qfc repUnd h;rw [repCel] at b;have c:∀ j o u,(#[(0,3),(1,3),(2,3),(3,3),(4,3),(5,3),(6,3),(7,22),(8,23),(9,24),(10,25),(11,26),(12,27),(13,29),(15,3),(16,33)]:Array (Nat×TypeId))[j]?=some (o,u)->∃ y m,DataW.trod enc prog w 0 (fun _=>true) true m u ((cs.drop o).take (prog.cellsOf u))=some y:=fun j o u hj=>hf j o u (by rw [<-repTys,vcv] at hj;exact hj)
 clear hf h;obtain ⟨c0,cs,rfl⟩:=vai b;have b:=vbs b;obtain ⟨c1,cs,rfl⟩:=vai b;have b:=vbs b;obtain ⟨c2,cs,rfl⟩:=vai b;have b:=vbs b;obtain ⟨c3,cs,rfl⟩:=vai b;have b:=vbs b;obtain ⟨c4,cs,rfl⟩:=vai b;have b:=vbs b;obtain ⟨c5,cs,rfl⟩:=vai b;have b:=vbs b;obtain ⟨c6,cs,rfl⟩:=vai b;have b:=vbs b;obtain ⟨c7,cs,rfl⟩:=vai b;have b:=vbs b;obtain ⟨c8,cs,rfl⟩:=vai b;have b:=vbs b;obtain ⟨c9,cs,rfl⟩:=vai b;have b:=vbs b;obtain ⟨C,cs,rfl⟩:=vai b;have b:=vbs b;obtain ⟨c11,cs,rfl⟩:=vai b;have b:=vbs b;obtain ⟨D,cs,rfl⟩:=vai b;have b:=vbs b;obtain ⟨g,cs,rfl⟩:=vai b;have b:=vbs b;obtain ⟨i,cs,rfl⟩:=vai b;have b:=vbs b;obtain ⟨E,cs,rfl⟩:=vai b;have b:=vbs b;obtain ⟨l,cs,rfl⟩:=vai b;have b:=vbs b;obtain ⟨p,cs,rfl⟩:=vai b;have b:=vbs b;obtain rfl:cs=[]:=vcg b;obtain ⟨_,_,g0⟩:=c 0 0 _ rfl;rw [qca] at g0;obtain ⟨x0,rfl⟩:=qah underlying3 (g0:DataW.trod _ _ _ _ _ _ _ _ [c0]=some _);obtain ⟨_,_,g1⟩:=c 1 1 _ rfl;rw [qca] at g1;obtain ⟨x1,rfl⟩:=qah underlying3 (g1:DataW.trod _ _ _ _ _ _ _ _ [c1]=some _);obtain ⟨_,_,g2⟩:=c 2 2 _ rfl;rw [qca] at g2;obtain ⟨x2,rfl⟩:=qah underlying3 (g2:DataW.trod _ _ _ _ _ _ _ _ [c2]=some _);obtain ⟨_,_,g3⟩:=c 3 3 _ rfl;rw [qca] at g3;obtain ⟨x3,rfl⟩:=qah underlying3 (g3:DataW.trod _ _ _ _ _ _ _ _ [c3]=some _);obtain ⟨_,_,g4⟩:=c 4 4 _ rfl;rw [qca] at g4;obtain ⟨x4,rfl⟩:=qah underlying3 (g4:DataW.trod _ _ _ _ _ _ _ _ [c4]=some _);obtain ⟨_,_,g5⟩:=c 5 5 _ rfl;rw [qca] at g5;obtain ⟨x5,rfl⟩:=qah underlying3 (g5:DataW.trod _ _ _ _ _ _ _ _ [c5]=some _);obtain ⟨_,_,g6⟩:=c 6 6 _ rfl;rw [qca] at g6;obtain ⟨x6,rfl⟩:=qah underlying3 (g6:DataW.trod _ _ _ _ _ _ _ _ [c6]=some _);obtain ⟨_,_,g7⟩:=c 7 7 _ rfl;rw [show prog.cellsOf 22 = 1 by kernel_rfl] at g7;obtain ⟨A7,e7,z7,rfl,r7,q7,s7,n7⟩:=qdp (en:=encE) (k:=10) (Q:=RdE0 w) underlying22 (by rw [entC,entS]) qio jd (fun _ _ _ h=>trod_ent h) (g7:DataW.trod _ _ _ _ _ _ _ _ [c7]=some _);obtain ⟨_,_,g8⟩:=c 8 8 _ rfl;rw [show prog.cellsOf 23 = 1 by kernel_rfl] at g8;obtain ⟨A8,e8,z8,rfl,r8,q8,s8,n8⟩:=qdp (en:=qae) (k:=2) (Q:=fun _=>True) underlying23 qth (fun _=>rfl) jd (fun _ _ _ h=>qlx h) (g8:DataW.trod _ _ _ _ _ _ _ _ [c8]=some _);obtain ⟨_,_,g9⟩:=c 9 9 _ rfl;rw [show prog.cellsOf 24 = 1 by kernel_rfl] at g9;obtain ⟨A9,e9,z9,rfl,r9,q9,s9,n9⟩:=qdp (en:=qav) (k:=3) (Q:=RdKE w) underlying24 keCel qic jd (fun _ _ _ h=>trod_ke h) (g9:DataW.trod _ _ _ _ _ _ _ _ [c9]=some _);obtain ⟨_,_,q⟩:=c 10 10 _ rfl;rw [show prog.cellsOf 25 = 1 by kernel_rfl] at q;obtain ⟨A,F,Y,rfl,O,J,U,G⟩:=qdp (en:=encW) (k:=1) (Q:=RdJ w) underlying25 jk qql jd (fun _ _ _ h=>trod_il h) (q:DataW.trod _ _ _ _ _ _ _ _ [C]=some _);obtain ⟨_,_,r⟩:=c 11 11 _ rfl;rw [show prog.cellsOf 26 = 1 by kernel_rfl] at r;obtain ⟨f,K,P⟩:=trod_il (r:DataW.trod _ _ _ _ _ _ _ _ [c11]=some _)
 obtain rfl:c11=f.v:=by simpa [encW] using K
 obtain ⟨_,_,s⟩:=c 12 12 _ rfl;rw [show prog.cellsOf 27 = 1 by kernel_rfl] at s;obtain ⟨B,e12,Z,rfl,R,L,V,I⟩:=qdp (en:=encW) (k:=1) (Q:=RdW encR 2 w) underlying27 jk qql jd (fun _ _ _ h=>trod_rl h) (s:DataW.trod _ _ _ _ _ _ _ _ [D]=some _);obtain ⟨_,_,t⟩:=c 13 13 _ rfl;rw [qth] at t;obtain ⟨d,M,_⟩:=qlx (t:DataW.trod _ _ _ _ _ _ _ _ [g,i]=some _);obtain ⟨rfl,rfl⟩:g=.int .i64 d.1/\i=.int .i64 d.2:=by simpa [qae] using M
 obtain ⟨_,_,v⟩:=c 14 15 _ rfl;rw [qca] at v;obtain ⟨X,rfl⟩:=qah underlying3 (v:DataW.trod _ _ _ _ _ _ _ _ [E]=some _);obtain ⟨_,_,z⟩:=c 15 16 _ rfl;rw [stoCel] at z;obtain ⟨e,N,S,T⟩:=trod_sto (z:DataW.trod _ _ _ _ _ _ _ _ [l,p]=some _);obtain ⟨rfl,rfl⟩:l=e.1.v/\p=e.2.v:=by simpa [encSto] using N
 exact ⟨⟨x0,x1,x2,x3,x4,x5,x6,⟨A7,e7,z7⟩,⟨A8,e8,z8⟩,⟨A9,e9,z9⟩,⟨A,F,Y⟩,f,⟨B,e12,Z⟩,d.1,d.2,X,e.1,e.2⟩,rfl,
  ⟨r7,q7⟩,⟨r8,n8⟩,⟨r9,s9,n9⟩,q9,⟨O,U,G⟩,J,P,⟨R,V,I⟩,L,S,T⟩
theorem open_rep {r:Reach} {c:Nat} {v:Value} {d:DataW H} {p:List MemPlace} (k:Value.okWide prog w r c 35 v) (h:DataW.Trod enc prog w 0 (fun _=>true) true 35 v d p):∃ a:RP,v=.agg (encP a).toArray/\RdP w a:=by
 obtain ⟨f,rfl,_⟩:=okWide_struct repUnd k;obtain ⟨b,j⟩:=h;obtain ⟨a,e,i⟩:=trod_rep j;have g:f.toList=encP a:=e;exact ⟨a,by rw [<-g],i⟩
end
theorem msgU_H:prog.underlying 37 = some (.struct (prog.fieldsOf 37)):=by kernel_rfl
theorem msgT_H:(prog.fieldsOf 37).map (·.type)=#[3,3,3,3,3,3,3,3,9,3,3,23,26,3]:=by kernel_rfl
theorem msgO_H:oneCellFields prog (prog.fieldsOf 37)=true:=by kernel_rfl
theorem msgC_H:prog.cellsOf 37 = (prog.fieldsOf 37).size:=by kernel_rfl
theorem msgS_H:(prog.fieldsOf 37).size=14:=by kernel_rfl
section
variable {H:Type} {enc:TypeId×Value->H} {w:World}
theorem trod_msg {n:Nat} {cs:List Value} {x:DataW H×List MemPlace} (h:DataW.trod enc prog w 0 (fun _=>true) true n 37 cs=some x):∃ m:PM,cs=(msgC m).toList/\RdK encA 2 w.heap.size w m.aA m.ats/\RdI w.heap.size w m.mA m.mks:=by
 obtain ⟨v,R⟩:=qjc msgU_H msgO_H msgC_H h;rw [msgS_H] at v;have d:∀ j u,(#[3,3,3,3,3,3,3,3,9,3,3,23,26,3]:Array TypeId)[j]?=some u->∃ c y m,cs[j]?=some c/\DataW.trod enc prog w 0 (fun _=>true) true m u [c]=some y:=fun j u l=>R j u (by rw [<-msgT_H,vcv] at l;exact l)
 obtain ⟨c0,_,_,U,F⟩:=d 0 _ rfl;obtain ⟨x0,rfl⟩:=qah underlying3 F;obtain ⟨c1,_,_,V,G⟩:=d 1 _ rfl;obtain ⟨x1,rfl⟩:=qah underlying3 G;obtain ⟨c2,_,_,X,I⟩:=d 2 _ rfl;obtain ⟨x2,rfl⟩:=qah underlying3 I;obtain ⟨c3,_,_,Y,J⟩:=d 3 _ rfl;obtain ⟨x3,rfl⟩:=qah underlying3 J;obtain ⟨c4,_,_,Z,K⟩:=d 4 _ rfl;obtain ⟨x4,rfl⟩:=qah underlying3 K;obtain ⟨c5,_,_,k5,L⟩:=d 5 _ rfl;obtain ⟨x5,rfl⟩:=qah underlying3 L;obtain ⟨c6,_,_,k6,M⟩:=d 6 _ rfl;obtain ⟨x6,rfl⟩:=qah underlying3 M;obtain ⟨c7,_,_,k7,N⟩:=d 7 _ rfl;obtain ⟨x7,rfl⟩:=qah underlying3 N;obtain ⟨c8,_,_,k8,O⟩:=d 8 _ rfl;obtain ⟨x8,rfl⟩:=qgy underlying9 O;obtain ⟨c9,_,_,k9,P⟩:=d 9 _ rfl;obtain ⟨x9,rfl⟩:=qah underlying3 P;obtain ⟨C,_,_,o,e⟩:=d 10 _ rfl;obtain ⟨s,rfl⟩:=qah underlying3 e;obtain ⟨c11,_,_,p,f⟩:=d 11 _ rfl;obtain ⟨A,a,z,rfl,T,_,_,_⟩:=qdp (en:=qae) (k:=2) (Q:=fun _=>True) underlying23 qth (fun _=>rfl) jd (fun _ _ _ h=>qlx h) f;obtain ⟨D,_,_,q,g⟩:=d 12 _ rfl;obtain ⟨B,b,y,rfl,S,_,_,_⟩:=qdp (en:=qen) (k:=1) (Q:=fun _=>True) underlying26 qca (fun _=>rfl) jd (fun _ _ _ h=>trod_iv h) g;obtain ⟨E,_,_,r,i⟩:=d 13 _ rfl;obtain ⟨t,rfl⟩:=qah underlying3 i;refine ⟨⟨x0,x1,x2,x3,x4,x5,x6,x7,x8,x9,s,A,a,z,B,b,y,t⟩,qkp 14 v rfl fun j l=>?_,T,qxx S⟩;rcases (show j=0\/j=1\/j=2\/j=3\/j=4\/j=5\/j=6\/j=7\/j=8\/j=9\/j=10\/j=11\/j=12\/j=13 by omega) with rfl | rfl | rfl | rfl | rfl | rfl | rfl | rfl | rfl | rfl | rfl | rfl | rfl | rfl
 .exact U
 .exact V
 .exact X
 .exact Y
 .exact Z
 .exact k5
 .exact k6
 .exact k7
 .exact k8
 .exact k9
 .exact o
 .exact p
 .exact q
 exact r
theorem open_msgH {r:Reach} {c:Nat} {v:Value} {d:DataW H} {p:List MemPlace} (k:Value.okWide prog w r c 37 v) (h:DataW.Trod enc prog w 0 (fun _=>true) true 37 v d p):∃ m:PM,v=.agg (msgC m)/\RdK encA 2 w.heap.size w m.aA m.ats/\RdI w.heap.size w m.mA m.mks:=by
 obtain ⟨a,rfl,_⟩:=okWide_struct msgU_H k;obtain ⟨b,j⟩:=h;obtain ⟨m,e,g,i⟩:=trod_msg j;have f:a.toList=(msgC m).toList:=e;exact ⟨m,by rw [show a=msgC m from Array.ext' f],g,i⟩
end
end Go.Proofs.YtdcfffhoajmafaaGreat
