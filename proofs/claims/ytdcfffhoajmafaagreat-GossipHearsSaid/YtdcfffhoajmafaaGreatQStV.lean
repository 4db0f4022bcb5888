/- Texts that the law leans on. -/
import Derived.Test.YtdcfffhoajmafaaGreatQTbF
import Derived.Test.YtdcfffhoajmafaaGreatQStN
import Derived.Test.YtdcfffhoajmafaaGreatQStO
set_option maxRecDepth 100000
set_option maxHeartbeats 8000000
namespace Go.Proofs.YtdcfffhoajmafaaGreat
open Go.RowKit Go.Sort Go.Lib Go.Proofs.Tryz
section
attribute [local go_sem ↓] qap qan
attribute [local go_sem] qaw qao qal qbb qbv
theorem tzq {p:Prop} (h:p:=by (simp only [Act.put,sA,s0,s1];rfl)):p:=h
theorem BoxG.box {w W:World} {g:Nat} {cs:Array Value} {t:TypeId} (h:BoxG w g cs t W) {n:Nat} (a:cs.size=n):qdd W g n=true:=qdx h.row a
theorem BoxG.rowAt {w W:World} {g:Nat} {cs:Array Value} {t:TypeId} (h:BoxG w g cs t W):rowAt W g=cs:=qef h.row
theorem BoxG.froz {w W:World} {g:Nat} {cs:Array Value} {t:TypeId} (h:BoxG w g cs t W) (j:Nat):W.frozen? ⟨g,j,none⟩=false:=by
 have:=h.row
 simp [World.frozen?,this]
theorem BoxG.set {w W:World} {g:Nat} {cs:Array Value} {t:TypeId} (h:BoxG w g cs t W) (a:w.heap.size<=g) (j:Nat) (v:Value):BoxG w g (cs.setIfInBounds j v) t (W.setCell ⟨g,j,none⟩ v) :=
 ⟨h.b.setCell (p:=⟨g,j,none⟩) a v,vdh W g j cs t v h.row⟩
theorem BoxG.far {w W:World} {g g2:Nat} {cs:Array Value} {t:TypeId} (h:BoxG w g cs t W) (b:w.heap.size<=g2) (a:g≠g2) (j:Nat) (v:Value):BoxG w g cs t (W.setCell ⟨g2,j,none⟩ v) :=
 ⟨h.b.setCell (p:=⟨g2,j,none⟩) b v,(vbf W ⟨g2,j,none⟩ g v (by simpa using a)).trans h.row⟩
section
variable (w:World) (a b c:Array Value) (s t u:TypeId)
theorem BoxG.t1:BoxG w w.heap.size a s (((w.alloc (.cells a s)).alloc (.cells b t)).alloc (.cells c u)) :=
 ⟨qab (qab (bel1 w _) _) _,qdm (qdm (vaw w _))⟩
theorem BoxG.t2:BoxG w (w.heap.size + 1) b t (((w.alloc (.cells a s)).alloc (.cells b t)).alloc (.cells c u)) :=
 ⟨qab (qab (bel1 w _) _) _,qdm (veh w _ _)⟩
theorem BoxG.t3:BoxG w (w.heap.size + 1 + 1) c u (((w.alloc (.cells a s)).alloc (.cells b t)).alloc (.cells c u)):=by
 refine ⟨qab (qab (bel1 w _) _) _,?_⟩
 have:=vaw ((w.alloc (.cells a s)).alloc (.cells b t)) (.cells c u)
 rwa [show ((w.alloc (.cells a s)).alloc (.cells b t)).heap.size=w.heap.size + 1 + 1 by simp] at this
end
theorem rowP {cs:Array Value} {r:RP} (h:cs=(encP r).toArray):cs.size=18/\qfy cs=true:=by
 subst h;exact ⟨rfl,qxv r⟩
theorem CloneKn (f:Addr) (c:Nat) (d:Array KE) (w:World) (h:RdK qav 3 w.heap.size w (some f) d) (A:d.size<=1000000) :
 Calls prog 33 #[.slice (some f) d.size c] w fun e r=>∃ v,e=.returned v/\r.ownsRow w.heap.size 66 3 v d.size (flatK qav 3 d).toList/\Below w.heap.size w r:=by
 obtain ⟨u,l,m,o,p⟩:=vbo qlv;have s:=hI h;clear h;have x:∀ (w:World) (a:Option Addr) (n c q g:Nat),(binOp .eql 24 (.slice a n c) (.slice none q g)).run prog w=.ok (.bool a.isNone) w:=fun w a n c q g=>veq w _ _ a n c q g underlying24
 go_in;go_wp2_with (at_builtin;refine qcq quz qic jd rfl (.tmp 5) (.tmp 6) 24 rfl w.heap.size 66 u (.agg #[.int .i64 0,.slice none 0 0,.slice none 0 0]) 56 underlying24 l m o p rfl _ #[] rfl (qba w 66 qav 3) w.heap.size (some f) c d rfl (s.out.alloc (vaa _) _) (fun h=>by cases h) jso jd js ?_;intro y z b j _);go_ret;have i:Below w.heap.size w z:=(bel1 w _).grown j js (fun k t=>((qba w 66 qav 3).lt k t).1);exact ⟨y,rfl,by simpa using b,i⟩
theorem qif {w:World} {B s n:Nat} {e:TypeId} {v:Value} {d:List Value} (h:w.ownsRow B e s v n d) (i:0 < n):∃ g c,v=.slice (some ⟨g,0,none⟩) n c/\B<=g/\g < w.heap.size:=by
 obtain ⟨_,⟨_,f⟩ | ⟨g,c,_,e,a,b,_⟩⟩:=h
 .omega
 exact ⟨g,c,e,a,(vbm.1 b).1⟩
def FinR (r:RP) (p:Nat) (sq:Int) (y:Array (RW (Int×Int))):Prop:=y.size=r.d.z.size/\(∀ i,i < r.d.z.size->i≠p->y[i]!.z=r.d.z[i]!.z)/\IsN (pAdd r.d.z[p]!.z #[(sq,sq)]) y[p]!.z/\y[p]!.z.size<=r.d.z[p]!.z.size + 1
end
theorem qig (r n:Int) (w:World):Calls prog 78 #[.int .i64 r,.int .i64 n] w fun e c=>e=.returned (.bool (decide (1<=r/\r<=n)))/\w=c:=by
 by_cases a:1<=r <;> by_cases b:r<=n
 all_goals
  go_in;go_wp2;go_ret;exact ⟨qad (by simp [a,b]),rfl⟩
def zbe (m:Array (RW Int)) (n p:Nat) (x:Array Int):Array Int:=((List.range (n * n)).map fun t=>if p * n<=t/\t < p * n + n then x[t - p * n]! else (catM m m.size).toArray[t]!).toArray
theorem qxz (m:Array (RW Int)) (n p:Nat) (x:Array Int) {t:Nat} (h:t < n * n):(zbe m n p x)[t]! = if p * n<=t/\t < p * n + n then x[t - p * n]! else (catM m m.size).toArray[t]!:=by
 rw [vae _ t (by simpa [zbe] using h)];simp [zbe]
theorem tellD_row (m:Array (RW Int)) {n p:Nat} {x:Array Int} (h:∀ i,i < m.size->m[i]!.z.size=n) (q:m.size=n) (r:p < n) (o:x.size=n) {i:Nat} (hi:i < n):cutR (zbe m n p x) n i=if i=p then x else m[i]!.z:=by
 have l:(if i=p then x else m[i]!.z).size=n:=by
  split
  .exact o
  exact h i jo
 apply Array.ext (by rw [qfv,l]);intro j b g;rw [qfv] at b;have e:=cutR_at (zbe m n p x) n i b;rw [vae _ j (by rw [qfv];exact b)] at e;rw [e];have c:(i + 1) * n<=n * n:=vce n hi;rw [vdx] at c;rw [qxz _ _ _ _ jo];rw [<-vae _ j g];by_cases a:i=p
 .subst a
  rw [vam jo,vam rfl,vfh]
 have k:¬ (p * n<=i * n + j/\i * n + j < p * n + n):=by
  rcases val i p with d | d
  .have:(i + 1) * n<=p * n:=vce n d
   rw [vdx] at this;omega
  have:(p + 1) * n<=i * n:=vce n jo
  rw [vdx] at this;omega
 rw [vao k,vao a];have f:=catM_at m h m.size (vaa _) i j jo b;rw [vbx];simp only [List.getElem?_toArray,f]
theorem lay_get {L a:List Value} {off:Nat} (h:off + a.length<=L.length) (t:Nat):(qyh L off a)[t]?=if off<=t/\t < off + a.length then a[t - off]? else L[t]?:=by
 unfold qyh;have d:(L.take off).length=off:=by rw [List.length_take];omega
 rcases val t off with b | b
 .rw [vej jo,vao jo,List.getElem?_take,vam b]
 rw [vei jo,d];by_cases c:t < off + a.length
 .rw [vam ⟨b,c⟩,vej jo]
 rw [vao jo,vei jo,List.getElem?_drop];congr 1;omega
theorem zbf {w w':World} {b B s n:Nat} {e:TypeId} {v:Value} {f:List Value} (h:w.ownsRow B e s v n f) (q:b < B) (m:∀ j,j≠b->w'.heap[j]?=w.heap[j]?):w'.ownsRow B e s v n f:=by
 obtain ⟨d,i | ⟨g,a,c,p,k,l,o⟩⟩:=h
 .exact ⟨d,Or.inl i⟩
 exact ⟨d,Or.inr ⟨g,a,c,p,k,(m g jo).trans l,o⟩⟩
def qoh (m:Array (RW Int)) (p:Nat) (x:Array Int) (y:Array (RW Int)):Prop:=y.size=m.size/\∀ i,i < m.size->y[i]!.z=if i=p then x else m[i]!.z
theorem qpc (A:Option Addr) (c n p:Nat) (m:Array (RW Int)) (V:Option Addr) (c2:Nat) (d2:Array Int) (w:World) (h:RdMM w ⟨A,c,m⟩) (hm:qey m n=true) (hp:p < n) (h2:RdI_R w.heap.size w V d2) (hd:qas d2 n=0) :
 Calls prog 31 #[.slice A m.size c,.int .i64 n,.int .i64 ((p:Int) + 1),.slice V d2.size c2] w fun e d=>(∃ y:RW (RW Int),e=.returned (.tuple #[y.v,.int .i64 0])/\OwnMM w.heap.size d y/\qoh m p (qcd m[p]!.z d2) y.z)/\Below w.heap.size w d:=by
 obtain ⟨f7,f6,s⟩:=qci.1 hm;have r:m.size=n:=by omega
 have B:∀ i,i < m.size->m[i]!.z.size=n:=fun i F=>by have:=(qay.1 (s i F)).2.1;omega
 have S:d2.size=n:=by have:=(qay.1 hd).2.1;omega
 have d7:Hid (Calls prog 77 #[.slice A m.size c,.int .i64 n] w fun e d=>e=.returned (.int .i64 0)/\Below w.heap.size w d):=by
  have:=qha A c m n w h.1.rd h.2 jo (fun i F=>by rw [B i F];omega)
  have e0:qea m n=0:=by unfold qea;rw [vam hm]
  rwa [e0] at this
 have d8:Hid (∀ W,Below w.heap.size w W->Calls prog 79 #[.slice V d2.size c2,.int .i64 n] W fun e d=>e=.returned (.int .i64 0)/\Below W.heap.size W d):=fun W E=>by
  have:=qfs V c2 d2 n _ W (h2.below E) jo
  rwa [hd] at this
 have d5:Hid (∀ W,Calls prog 78 #[.int .i64 ((p:Int) + 1),.int .i64 n] W fun e d=>e=.returned (.bool true)/\W=d):=fun W=>by
  have:=qig ((p:Int) + 1) n W
  rwa [vah (by omega:1<=(p:Int) + 1/\(p:Int) + 1<=(n:Int))] at this
 have a4:Hid (∀ W,Below w.heap.size w W->Calls prog 80 #[.slice A m.size c,.int .i64 n] W fun e d=>∃ (v:Value) (b:Nat),e=.returned v/\W.heap.size<=b/\(∃ (R:Nat) (g:Array Value),d.heap[b]?=some (.cells g 3 (0,0))/\n * n<=R/\g.size=R/\g.toList.take (n * n)=(catM m m.size).map (Value.int .i64))/\d.ownsRow (b + 1) 26 1 v n ((List.range n).map fun i=>.slice (some ⟨b,0 + i * n,none⟩) n n)/\Below W.heap.size W d) :=
  fun W E=>zbc A c n m W (h.below E) B jo jo r
 have C:Hid (∀ W,Below w.heap.size w W->Calls prog 81 #[.slice m[p]!.A n m[p]!.c,.slice V d2.size c2] W fun e d=>∃ (b o c:Nat),e=.returned (.slice (some ⟨b,o,none⟩) n c)/\(∀ j v,((qcd m[p]!.z d2).toList.map (Value.int .i64))[j]?=some v->d.cell? ((⟨b,o,none⟩:Addr).add j)=some v)/\Below W.heap.size W d):=fun W E=>by
  have e1:(qcd m[p]!.z d2).size=n:=by rw [qcw,B p jo,S];omega
  have:=Merge_any m[p]!.A V m[p]!.c c2 m[p]!.z d2 W (((h.2 p (show p < m.size by omega)).below E).rd) ((h2.below E).mono E.size) (by rw [B p jo];omega) jo
  rw [B p jo,e1] at this;refine this.mono fun e d ⟨A3,c3,he,hr,f2⟩=>?_
  obtain ⟨b,o,hA,_,f⟩:=hr jo;subst hA;refine ⟨b,o,c3,he,fun j v hj=>?_,f2⟩;rw [vdc] at hj;rcases val j (qcd m[p]!.z d2).size with l | l
  .rw [Addr.add_lit,f j l]
   rw [vbh,vbe l] at hj;rw [vae _ j l];simpa using hj
  rw [vbh,vbn l] at hj;cases hj
 have d0:(prog.info? 3).map (·.size)=some 1:=by kernel_rfl
 have HJ:Hid (∀ i,i < m.size->m[i]!.z.size=n):=B;have z:(qcd m[p]!.z d2).size=n:=by rw [qcw,B p jo,S];omega
 have c0:(catM m m.size).length=n * n:=(qlw m B m.size (vaa _)).trans (by rw [r]);have G:(p + 1) * n<=n * n:=vce n hp;rw [vdx] at G;obtain ⟨bm,om,hA,f4,fm⟩:=h.1.rd.at_ (i:=p) (show p < m.size by omega);have f0:A=some ⟨bm,om,none⟩:=hA;subst f0;have e0:=fm 0 jo;have d4:=B p jo;simp only [vak,vcq,encW,RW.v,vac,d4] at e0;have a5:Hid (∀ W,Below w.heap.size w W->W.cell? ⟨bm,om + p,none⟩=some (.slice m[p]!.A n m[p]!.c)):=fun W E=>(E.cell (p:=⟨bm,om + p,none⟩) f4).trans e0
 obtain ⟨X,hX⟩:∃ X,qcd m[p]!.z d2=X:=⟨_,rfl⟩
 rw [hX] at C z |-
 obtain ⟨Q,k⟩:∃ Q,X.toList.map (Value.int .i64)=Q:=⟨_,rfl⟩
 rw [k] at C;have b4:Q.length=n:=by rw [<-k];simpa using z
 have b3:∀ v ∈ Q,v.oneCell'=true:=by
  intro v hv;rw [<-k] at hv;obtain ⟨_,_,rfl⟩:=vcp.1 hv;rfl
 have e8:=hI k;have P:=hI b4;have e7:=hI b3;have b1:=hI (fun (i:Nat) (F:i < n)=>tellD_row m (p:=p) (x:=X) B r hp z F);have a1:=hI (fun (t:Nat) (Y:t < n * n)=>qxz m n p X Y);have a8:=hI r;have a3:=hI c0;have e9:=hI z;have g7:0 < n:=by omega
 have g4:n<=9:=by omega
 obtain ⟨u,hu⟩:∃ u,m[p]! = u:=⟨_,rfl⟩
 rw [hu] at a5 C;obtain ⟨q,hq⟩:∃ q,p * n=q:=⟨_,rfl⟩
 have HQ:=hI hq;obtain ⟨nn,T⟩:∃ nn,n * n=nn:=⟨_,rfl⟩
 rw [hq,T] at G;have D:=hI T;have e3:=hI G;have kz:(p:Int) < (n:Int):=by omega
 have km:(p:Int) < (m.size:Int):=by omega
 generalize catM m m.size=CM at a4 a1 a3;clear h hm h2 hd f7 f6 s B S hA fm e0 d4 hX k b4 b3 hu hq T G r c0 z;go_in
 go_wp2_with (first
  | (go_at_call 77;refine d7.out.mono ?_;rintro _ w1 ⟨rfl,b5⟩;have a2:=hI b5;clear b5)
  | (go_at_call 78;refine (d5.out _).mono ?_;rintro _ _ ⟨rfl,rfl⟩)
  | (go_at_call 79;refine (d8.out _ a2.out).mono ?_;rintro _ w2 ⟨rfl,b6⟩;have M:=hI (qaa a2.out b6);clear b6)
  | fail)
 refine (a4.out _ M.out).mono ?_;rintro _ Z ⟨v,b,rfl,b2,⟨R,g,I,b9,c4,d1⟩,K,b7⟩;have N:=hI (qaa M.out b7);have a9:=hI K;obtain ⟨_,⟨rfl,g5⟩ | ⟨g2,g1,g3,rfl,g6,c7,c8,c1,c5,d3⟩⟩:=K
 .omega
 have c6:g2 < Z.heap.size:=(vbm.1 c7).1;have f3:b < Z.heap.size:=by omega
 have a0:Z.cell? ⟨g2,p,none⟩=some (.slice (some ⟨b,q,none⟩) n n):=by
  rw [a9.out.cellAt p jo,vdc,List.getElem?_range hp];simp [HQ.out]
 have b0:=a5.out _ N.out;have O:Hid (w.heap.size<=b):=hI (vax M.out.size b2);obtain ⟨H,rfl⟩:∃ L:List Value,g=L.toArray:=⟨g.toList,by simp⟩
 have d9:Hid (Z.heap[b]?=some (.cells H.toArray 3 (0,0))):=I;have e6:Hid (H.take nn=CM.map (Value.int .i64)):=by show _=_;rw [<-D.out];exact d1
 have e4:Hid (nn<=H.length):=by show _<=_;rw [<-D.out];simp at c4;omega
 have a6:Hid (q + Q.length<=H.length):=by show _<=_;rw [P.out];exact vax e3.out e4.out
 have a7:=hI (C.out Z.drew N.out.drew);clear I c4 d1 b7 c7 c1 c5 d3 b2 b9 c8;go_wp2;have g8:IntKind.i64.wrap (p:Int)=(p:Int):=vcu _ jo
 go_region_law (first
  | (refine qyj rfl (.tmp 34) (.tmp 41) 26 26 rfl 1 3 underlying26 d0 b q n n ⟨bg,og,none⟩ n cg (by simp [Act.eval]) (by simp [Act.eval]) H 3 e2.out Q n js (by rw [vcq];exact P.out) c9 a6.out e7.out w.heap.size w d6.out O.out ?_;intro w5 f5 f1 f8)
  | (go_simp;refine a7.out.mono ?_;rintro _ w4 ⟨bg,og,cg,rfl,c9,a⟩;have d6:=hI (qaa N.out.drew a);have e2:Hid (w4.heap[b]?=some (.cells H.toArray 3 (0,0))):=hI ((a.block b f3).trans d9.out);have a0:w4.cell? ⟨g2,p,none⟩=some (.slice (some ⟨b,q,none⟩) n n):=(a.cell (p:=⟨g2,p,none⟩) c6).trans a0;have e5:=hI (qeh (w:=Z.drew) a9.out a);clear a;dsimp only))
 all_goals
  go_wp2;go_ret2;have U:=zbf e5.out (vcr b) f8.out;have J:=f5.out;have b8:b < w5.heap.size:=(vbm.1 J).1
  obtain ⟨y,e,g0,f9⟩:=cut_own (B0:=w.heap.size) (zbe m n p X) U (jg O.out) b8 O.out (fun t Y=>by
   rw [vcc,vas _ _ t _ _ (0,0) J,List.getElem?_toArray,lay_get a6.out,a1.out t Y,P.out,HQ.out];rw [D.out] at Y;split
   .rename_i hc
    have l:t - q < X.size:=by have:=e9.out;omega
    have:Q[t - q]?=some (.int .i64 X[t - q]!):=by
     rw [<-e8.out,vdc,vbh,vbe l,vae X _ l];rfl
    exact this
   rename_i hc;have h3:H[t]?=(H.take nn)[t]?:=by rw [List.getElem?_take,vam Y]
   rw [h3,e6.out,vdc];have l:t < CM.length:=by rw [a3.out,D.out];exact Y
   rw [vbl l,vae _ t (by simpa using l)]
   simp)
  refine ⟨⟨y,by rw [<-e];rfl,f9,?_⟩,f1.out⟩;rw [g0];refine ⟨by rw [qjt,a8.out],fun i F=>?_⟩;rw [a8.out] at F;rw [cutZ_at _ _ _ _ F];exact b1.out i F
theorem zbg (A:Option Addr) (n c:Nat) (x:Int) (w:World) :
 Calls prog 175 #[.slice A n c,.int .i64 x] w fun e a=>e=.returned (.func (.func 228) #[] #[.pointer (some ⟨w.heap.size,0,none⟩),.pointer (some ⟨w.heap.size + 1,0,none⟩)])/\a=(w.alloc (.cells #[.slice A n c] 25)).alloc (.cells #[.int .i64 x] 3):=by
 go_in;go_wp2;go_ret;exact ⟨rfl,rfl⟩
theorem col1_any (A:Option Addr) (c n k p q g2:Nat) (m:Array (RW Int)) (w:World) (h:RdMM w ⟨A,c,m⟩) (u:∀ i,i < m.size->m[i]!.z.size=n) (E:p < n) (D:n<=9) (g:k < m.size)
 (I:w.cell? ⟨q,0,none⟩=some (.slice A m.size c)) (J:w.cell? ⟨g2,0,none⟩=some (.int .i64 p)) :
 Calls prog 228 #[.int .i64 k,.pointer (some ⟨q,0,none⟩),.pointer (some ⟨g2,0,none⟩)] w fun e C=>e=.returned (.int .i64 m[k]!.z[p]!)/\Below w.heap.size w C:=by
 obtain ⟨x,B,s,z,j⟩:=h.1.rd.at_ (i:=k) g;have f:A=some ⟨x,B,none⟩:=s;subst f;have d:=j 0 jo;have v:=u k g;obtain ⟨b,o,t,_,l⟩:=(h.2 k g).rd (show 0 < m[k]!.z.size by omega);have y:=l p (show p < m[k]!.z.size by omega);simp only [vak,vcq,encW,RW.v,vac,v] at d;have a:m[k]!.A=some ⟨b,o,none⟩:=t;rw [a] at d;have F:(k:Int) < (m.size:Int):=by omega
 have H:(p:Int) < (n:Int):=by omega
 generalize m[k]!.z[p]! = r at y |-
 generalize m[k]!.c=G at d;clear j l h u s t a v;go_in;go_wp2;go_quiet (fail);go_wp2;go_ret;exact ⟨rfl,qaj (vag _ _) _⟩
theorem blk_setT {W:World} {g:Nat} {cs:Array Value} {t:TypeId} (h:W.heap[g]?=some (.cells cs t (0,0))) (k:Nat) (u:Value):(W.setCell ⟨g,k,none⟩ u).heap[g]?=some (.cells (cs.setIfInBounds k u) t (0,0)):=by
 simp [World.setCell,Array.getElem?_modify,h]
theorem qkh (m:Array (RW Int)) (c:Nat):(colM m c).size=m.size:=by simp [colM]
theorem colM_at (m:Array (RW Int)) (c:Nat) {j:Nat} (h:j < m.size):(colM m c)[j]! = m[j]!.z[c]!:=by
 rw [vae _ j (by rw [qkh];exact h),vae m j h];simp [colM]
theorem qvs (A:Option Addr) (c n p:Nat) (m:Array (RW Int)) (w:World) (h:RdMM w ⟨A,c,m⟩) (Q:qey m n=true) (hp:p < n) :
 Calls prog 87 #[.slice A m.size c,.int .i64 n,.int .i64 ((p:Int) + 1)] w fun e f=>e=.returned (.int .i64 (qcl (colM m p)))/\Below w.heap.size w f:=by
 obtain ⟨T,S,d⟩:=qci.1 Q;have B:m.size=n:=by omega
 have U:∀ i,i < m.size->m[i]!.z.size=n:=fun i P=>by have:=(qay.1 (d i P)).2.1;omega
 have J:Hid (Calls prog 77 #[.slice A m.size c,.int .i64 n] w fun e f=>e=.returned (.int .i64 0)/\Below w.heap.size w f):=by
  have:=qha A c m n w h.1.rd h.2 jo (fun i P=>by rw [U i P];omega)
  have e0:qea m n=0:=by unfold qea;rw [vam Q]
  rwa [e0] at this
 have G:Hid (∀ W,Calls prog 78 #[.int .i64 ((p:Int) + 1),.int .i64 n] W fun e f=>e=.returned (.bool true)/\W=f):=fun W=>by
  have:=qig ((p:Int) + 1) n W
  rwa [vah (by omega:1<=(p:Int) + 1/\(p:Int) + 1<=(n:Int))] at this
 have K:Hid (∀ W (k D E:Nat),Below w.heap.size w W->k < m.size->W.cell? ⟨D,0,none⟩=some (.slice A m.size c)->W.cell? ⟨E,0,none⟩=some (.int .i64 p)->Calls prog 228 #[.int .i64 k,.pointer (some ⟨D,0,none⟩),.pointer (some ⟨E,0,none⟩)] W fun e f=>e=.returned (.int .i64 m[k]!.z[p]!)/\Below W.heap.size W f) :=
  fun W k D E hb Z q1 q2=>col1_any A c n k p D E m W (h.below hb) U hp jo Z q1 q2
 have L:Hid (∀ W,Calls prog 175 #[.slice A m.size c,.int .i64 p] W fun e f=>e=.returned (.func (.func 228) #[] #[.pointer (some ⟨W.heap.size,0,none⟩),.pointer (some ⟨W.heap.size + 1,0,none⟩)])/\f=(W.alloc (.cells #[.slice A m.size c] 25)).alloc (.cells #[.int .i64 p] 3)):=fun W=>zbg A m.size c p W
 have R:=fun W=>qml n jo W
 have b:=hI B;have a2:IntKind.i64.wrap (p:Int)=(p:Int):=vcu _ jo;have a1:n<=9:=by omega
 clear h Q T S d U B;go_in
 go_wp2_with (first
  | (go_at_call 77;refine J.out.mono ?_;rintro _ g ⟨rfl,y⟩;have s:=hI y;clear y)
  | (go_at_call 78;refine (G.out _).mono ?_;rintro _ _ ⟨rfl,rfl⟩)
  | (go_at_call 175;refine (L.out _).mono ?_;rintro _ a ⟨rfl,r⟩;have u:Hid (BoxG g g.heap.size #[.slice A m.size c] 25 a):=hI (by rw [r];exact BoxG.fst g _ _ _ _);have I:Hid (BoxG g (g.heap.size + 1) #[.int .i64 p] 3 a):=hI (by rw [r];exact BoxG.snd g _ _ _ _);clear r))
 clear R
 go_loopw [28] (fun i wr=>∃ k:Nat,i=.int .i64 k/\k<=n/\Hid (wr.heap[a.heap.size]?=some (.cells (fcs n (fun j=>m[j]!.z[p]!) k) 3 (0,0)))/\Hid (Below a.heap.size a wr)) (fun i _=>n - (intOf i).toNat)
 case atStart=>exact ⟨0,rfl,vaj _,hI (by rw [fcs_0 _ (fun j=>m[j]!.z[p]!)];exact vaw a _),hI (bel1 a _)⟩
 case round =>
  obtain ⟨k,rfl,Z,M,C⟩:=hrel;by_cases z:k < n
  .have kz:(k:Int) < (n:Int):=by omega
   have v:=hI (u.out.next C.out);have N:=hI (I.out.next C.out);have V:=hI (K.out wr k g.heap.size (g.heap.size + 1) (qaa s.out v.out.b) (by rw [b.out];exact z) (v.out.at_ 0 rfl) (N.out.at_ 0 rfl));have Y:=hI (fcs_set n (fun j=>m[j]!.z[p]!) k);generalize m[k]!.z[p]! = x at V Y;go_wp2_with fail;refine V.out.mono ?_;rintro _ F ⟨rfl,o⟩;have O:a.heap.size < wr.heap.size:=qcj M.out;have l:Hid (F.heap[a.heap.size]?=some (.cells (fcs n (fun j=>m[j]!.z[p]!) k) 3 (0,0))):=hI ((o.block _ O).trans M.out);have H:=hI (qaa C.out o);have cg:F.cell? ⟨a.heap.size,k,none⟩=some (.int .i64 0):=by
    rw [vas F _ k _ _ (0,0) l.out,qte,vam z,vao jo]
   have fg:F.frozen? ⟨a.heap.size,k,none⟩=false:=by
    have:=l.out
    simp [World.frozen?,this]
   clear o;go_wp2;go_roundw
   case rel =>
    refine ⟨k + 1,by go_num,by omega,hI ?_,hI ?_⟩
    .rw [<-Y.out];exact blk_setT l.out k _
    exact H.out.setCell (p:=⟨a.heap.size,k,none⟩) (vaa _) _
   case measure=>simp [intOf];omega
  have a0:decide ((k:Int) < (n:Int))=false:=vab jo;obtain rfl:k=n:=by omega
  have q:=qkh m p;have HE:Hid (wr.heap[a.heap.size]?=some (.cells ((colM m p).map qdq) 3 (0,0))):=by
   show _=_;rw [M.out,<-fcs_all,q,b.out];congr 2;unfold fcs;congr 1;refine List.map_congr_left fun t ht=>?_
   have:=vbv.1 ht
   simp only [colM_at m p (show t < m.size by rw [b.out];exact this)]
  have X:=hI (qsn (some ⟨a.heap.size,0,none⟩) (colM m p).size (colM m p) _ wr (qtt HE.out) (jg b.out));rw [q,b.out] at X;clear q;go_wp2_with fail;refine X.out.mono ?_;rintro _ _ ⟨rfl,rfl⟩;go_wp2;go_ret;exact ⟨rfl,qaa s.out (qaa u.out.b C.out)⟩
theorem cks1_any (x:Int×Int) (f:Int) (g:Nat) (w:World) (d:g < w.heap.size) (b:w.cell? ⟨g,0,none⟩=some (.int .i64 f)) :
 Calls prog 176 #[.agg (qae x).toArray,.pointer (some ⟨g,0,none⟩)] w fun e h=>e=.returned (.bool (decide (x.1<=f)))/\Below w.heap.size w h:=by
 have c:∀ o,(w.alloc o).cell? ⟨g,0,none⟩=some (.int .i64 f):=fun o=>(vbq w _ _ d).trans b
 have a:Hid (∀ o,Below w.heap.size w (w.alloc o)):=hI (fun o=>bel1 w o);simp only [qae];go_in;go_wp2;go_ret;exact ⟨rfl,a.out _⟩
theorem qvt (A:Option Addr) (c:Nat) (d:Array (Int×Int)) (f:Int) (w:World) (h:RdK qae 2 w.heap.size w A d) (u:d.size<=1000000) :
 Calls prog 88 #[.slice A d.size c,.int .i64 f] w fun e z=>(∃ y:RW (Int×Int),e=.returned y.v/\y.z=qnl d f/\RdN qae 2 z y/\∀ g k,y.A=some ⟨g,k,none⟩->w.heap.size<=g)/\Below w.heap.size w z:=by
 have q:=hI (fun W (b:Below w.heap.size w W)=>qhm A c d W ((h.below b).mono b.size) u);clear h;go_in;have a:=hI (bel1 w (.cells #[.int .i64 f] 3));have o:Hid ((w.alloc (.cells #[.int .i64 f] 3)).heap[w.heap.size]?=some (.cells #[.int .i64 f] 3 (0,0))):=vaw w _;go_wp2_with fail;refine (q.out _ a.out).mono ?_;rintro _ J ⟨v,rfl,i,b⟩;have j:w.heap.size < (w.alloc (.cells #[.int .i64 f] 3)).heap.size:=by simp
 have D:=hI (qpj (fun x=>decide (x.1<=f)) 176 #[.pointer (some ⟨w.heap.size,0,none⟩)] (veb func176 jk rfl) v d _ J
  (fun W x I p=>cks1_any x f w.heap.size W (vad j p) (by
    rw [vas W w.heap.size 0 #[.int .i64 f] 3 (0,0) (((I _ j).trans (b.block _ j)).trans o.out)];rfl))
  i b.size u)
 have C:=hI (qaa a.out b);have n:=hI b;clear i b q;go_wp2_with fail;refine D.out.mono ?_;rintro _ K ⟨B,H,rfl,t,s,r,l⟩;have E:=hI (fun g k e=>vax a.out.size (r g k e));have G:=hI t;have F:=hI s;have m:=hI (qaa a.out (n.out.trans l));clear t s r l;go_wp2;go_ret;exact ⟨⟨⟨B,H,qnl d f⟩,rfl,rfl,⟨G.out,F.out⟩,E.out⟩,m.out⟩
def kR (r:RP) (K cK:Nat) (ks:Array KE):RP:={ r with k:=⟨some ⟨K,0,none⟩,cK,ks⟩ }
def FarK (w:World) (x:KE):Prop:=(0 < x.r.z.size->∀ g off,x.r.A=some ⟨g,off,none⟩->g < w.heap.size\/w.heap.size + 2<=g)/\(0 < x.a.z.size->∀ g off,x.a.A=some ⟨g,off,none⟩->g < w.heap.size\/w.heap.size + 2<=g)
theorem FarK.old {w:World} {x:KE} (h:RdKE w x):FarK w x:=by
 refine ⟨fun c g d e=>Or.inl ?_,fun c g d e=>Or.inl ?_⟩
 .obtain ⟨b,o,a,f,_⟩:=h.r.rd c
  rw [e] at a;injection a with a
  injection a with a
  omega
 obtain ⟨b,o,a,f,_⟩:=h.a.rd c;rw [e] at a;injection a with a
 injection a with a
 omega
theorem FarK.new {w:World} {x:KE} {B:Nat} (b:w.heap.size + 2<=B) (c:∀ g a,x.r.A=some ⟨g,a,none⟩->B<=g) (d:∀ g a,x.a.A=some ⟨g,a,none⟩->B<=g):FarK w x :=
 ⟨fun _ g a e=>Or.inr (vax b (c g a e)),fun _ g a e=>Or.inr (vax b (d g a e))⟩
def FarN (w:World) (x:KE):Prop:=(0 < x.r.z.size->∀ g off,x.r.A=some ⟨g,off,none⟩->w.heap.size + 2<=g)/\(0 < x.a.z.size->∀ g off,x.a.A=some ⟨g,off,none⟩->w.heap.size + 2<=g)
theorem FarN.far {w:World} {x:KE} (h:FarN w x):FarK w x:=⟨fun b g a e=>Or.inr (h.1 b g a e),fun b g a e=>Or.inr (h.2 b g a e)⟩
theorem FarN.new {w:World} {x:KE} {B:Nat} (b:w.heap.size + 2<=B) (c:∀ g a,x.r.A=some ⟨g,a,none⟩->B<=g) (d:∀ g a,x.a.A=some ⟨g,a,none⟩->B<=g):FarN w x :=
 ⟨fun _ g a e=>vax b (c g a e),fun _ g a e=>vax b (d g a e)⟩
theorem qya {w:World} {ks:Array KE} {k:Nat} {y:KE} (h:∀ i,i < k->FarN w ks[i]!) (b:k < ks.size) (c:FarN w y):∀ i,i < k + 1->FarN w (ks.setIfInBounds k y)[i]!:=by
 intro i d;by_cases a:i=k
 .subst a
  rw [getElem!_set_same ks i y b];exact c
 rw [show (ks.setIfInBounds k y)[i]! = ks[i]! by rw [vbx,vbx,vbb,vao (Ne.symm a)]];exact h i jo
theorem RdK.apartN {α:Type} [Inhabited α] {en:α->List Value} {k n:Nat} {W W':World} {A:Option Addr} {d:Array α} (h:RdK en k W.heap.size W A d) (m:0 < d.size->∀ g c,A=some ⟨g,c,none⟩->n<=g) (o:∀ j,n<=j->j < W.heap.size->W'.heap[j]?=W.heap[j]?) (p:W.heap.size<=W'.heap.size):RdK en k W'.heap.size W' A d:=fun i=>by
 obtain ⟨b,c,e,f,l⟩:=h i;exact ⟨b,c,e,vad f p,fun t q=>(vdf (w:=W) (a:=⟨b,c + t,none⟩) (o b (m i b c e) f)).trans (l t q)⟩
theorem RdKE.apartN {w W W':World} {x:KE} (h:RdKE W x) (a:FarN w x) (b:∀ j,w.heap.size + 2<=j->j < W.heap.size->W'.heap[j]?=W.heap[j]?) (c:W.heap.size<=W'.heap.size):RdKE W' x :=
 ⟨⟨RdK.apartN h.r.rd a.1 b c,h.r.no⟩,⟨RdK.apartN h.a.rd a.2 b c,h.a.no⟩⟩
def SepR (r:RP) (B:Nat) (w1:World) (s:RP):Prop:=∀ W,RdP W r->(∀ j,B<=j->j < w1.heap.size->W.heap[j]?=w1.heap[j]?)->w1.heap.size<=W.heap.size->RdP W s
theorem SepR.rd {r s:RP} {B:Nat} {a:World} (h:SepR r B a s) (b:RdP a r):RdP a s:=h a b (fun _ _ _=>rfl) (vaa _)
theorem SepR.trans {r s t:RP} {B:Nat} {a e:World} (h:SepR r B a s) (g:SepR s a.heap.size e t) (d:Below a.heap.size a e) (k:B<=a.heap.size):SepR r B e t:=fun W l f i =>
 g W (h W l (fun j c b=>(f j c (vad b d.size)).trans (d.block j b)) (vax d.size i)) (fun j c b=>f j (vax k c) b) i
theorem SepR.self (r:RP) (B:Nat) (b:World):SepR r B b r:=fun _ a _ _=>a
theorem SepR.below {r s:RP} {B:Nat} {b d:World} (h:SepR r B b s) (a:Below b.heap.size b d):SepR r B d s:=fun W g f i =>
 h W g (fun j e c=>(f j e (vad c a.size)).trans (a.block j c)) (vax a.size i)
theorem RdK.apart {α:Type} [Inhabited α] {en:α->List Value} {k n:Nat} {W W':World} {A:Option Addr} {d:Array α} (h:RdK en k W.heap.size W A d) (m:0 < d.size->∀ g c,A=some ⟨g,c,none⟩->g < n\/n + 2<=g) (o:∀ j,(j < n\/n + 2<=j)->j < W.heap.size->W'.heap[j]?=W.heap[j]?) (p:W.heap.size<=W'.heap.size):RdK en k W'.heap.size W' A d:=fun i=>by
 obtain ⟨b,c,e,f,l⟩:=h i;exact ⟨b,c,e,vad f p,fun t q=>(vdf (w:=W) (a:=⟨b,c + t,none⟩) (o b (m i b c e) f)).trans (l t q)⟩
theorem RdKE.apart {w W W':World} {x:KE} (h:RdKE W x) (a:FarK w x) (b:∀ j,(j < w.heap.size\/w.heap.size + 2<=j)->j < W.heap.size->W'.heap[j]?=W.heap[j]?) (c:W.heap.size<=W'.heap.size):RdKE W' x :=
 ⟨⟨RdK.apart h.r.rd a.1 b c,h.r.no⟩,⟨RdK.apart h.a.rd a.2 b c,h.a.no⟩⟩
structure RefW (w:World) (r:RP) (K cK:Nat) (ks:Array KE) (W:World):Prop where
 x:BoxG w w.heap.size (encP (kR r K cK ks)).toArray 35 W
 z:BoxG w (w.heap.size + 1) qby 35 W
 own:W.ownsRow (w.heap.size + 2) 66 3 (.slice (some ⟨K,0,none⟩) ks.size cK) ks.size (flatK qav 3 ks).toList
 kk:∀ i,i < ks.size->RdKE W ks[i]!
 far:∀ i,i < ks.size->FarK w ks[i]!
section
variable {w W W':World} {r:RP} {K cK:Nat} {ks:Array KE}
theorem RefW.hK (h:RefW w r K cK ks W):w.heap.size + 2<=K/\K < W.heap.size:=by
 obtain ⟨_,⟨e,_⟩ | ⟨g,_,_,e,a,b,_⟩⟩:=h.own
 .cases e
 injection e with e1
 injection e1 with e1
 injection e1 with e1
 subst e1;exact ⟨a,(vbm.1 b).1⟩
theorem RefW.next (h:RefW w r K cK ks W) (a:Below W.heap.size W W'):RefW w r K cK ks W' :=
 ⟨h.x.next a,h.z.next a,qeh h.own a,fun i b=>(h.kk i b).below a,h.far⟩
theorem RefW.rk (h:RefW w r K cK ks W):RdW qav 3 W ⟨some ⟨K,0,none⟩,cK,ks⟩:=by
 obtain ⟨x,e,c,b⟩:=qek h.own
 have:x=⟨some ⟨K,0,none⟩,cK,ks⟩:=by
  obtain ⟨f,g,d⟩:=x;have a:d=ks:=c;subst a;unfold RW.v at e;injection e with q1 q2 q3
  subst q1 q3;rfl
 rw [<-this];exact b
theorem RefW.rd (h:RefW w r K cK ks W) (a:RdP w r):RdP W (kR r K cK ks):=by
 have g:=a.below h.x.b;exact ⟨g.e,g.o,h.rk,h.kk,g.m,g.mm,g.fr,g.d,g.dd,g.it,g.ss⟩
theorem RefW.cells (h:RefW w r K cK ks W) {i:Nat} (hi:i < ks.size) (c:Nat) (g:c < 3):W.cell? ⟨K,i * 3 + c,none⟩=some (qav ks[i]!)[c]!:=by
 obtain ⟨b,d,e,_,f⟩:=h.rk.rd.at_ (i:=i) hi;have a:some (⟨K,0,none⟩:Addr)=some ⟨b,d,none⟩:=e;injection a with a
 injection a with e1 e2
 subst e1 e2
 have:=f c g
 rwa [vcc] at this
theorem RefW.froz (h:RefW w r K cK ks W) (j:Nat):W.frozen? ⟨K,j,none⟩=false:=h.own.frozenAt j
theorem qns (ks:Array KE) (i:Nat) (x:KE) (hi:i < ks.size):(flatK qav 3 (ks.setIfInBounds i x)).toList=(((flatK qav 3 ks).toList.set (i * 3) (qav x)[0]!).set (i * 3 + 1) (qav x)[1]!).set (i * 3 + 2) (qav x)[2]!:=by
 have j:(ks.setIfInBounds i x).size=ks.size:=by simp
 have c:∀ d:Array KE,(flatK qav 3 d).toList.length=d.size * 3:=fun d=>by rw [ved,size_flatK]
 apply vec;intro t;simp only [List.getElem?_set,List.length_set,c];rcases val t (ks.size * 3) with b | b
 .have k:∀ d:Array KE,d.size=ks.size->(flatK qav 3 d).toList[t]?=some (qav d[t / 3]!)[t % 3]!:=fun d h=>by
   have g:t < (flatK qav 3 d).size:=by rw [size_flatK,h];exact b
   rw [vbh,vbe g,<-vae _ t g,get_flatK _ _ _ _ (by rw [h];exact b)]
  rw [k _ j,k _ rfl];by_cases f:t / 3=i
  .have e:(ks.setIfInBounds i x)[t / 3]! = x:=by rw [f];exact getElem!_set_same ks i x hi
   rw [e];have a:t % 3=0\/t % 3=1\/t % 3=2:=by omega
   rcases a with a | a | a
   .rw [vao jo,vao jo,vam jo,vam jo,a]
   .rw [vao jo,vam jo,vam jo,a]
   rw [vam jo,vam jo,a]
  have e:(ks.setIfInBounds i x)[t / 3]! = ks[t / 3]!:=by
   rw [vbx,vbx,vbb,vao (Ne.symm f)]
  rw [e,vao jo,vao jo,vao jo]
 rw [vao jo,vao jo,vao jo,vbr (by rw [c,j];exact b),vbr (by rw [c];exact b)]
theorem RefW.put (h:RefW w r K cK ks W) {i:Nat} (hi:i < ks.size) {x:KE} (B:RdKE W x) (m:FarK w x) :
 RefW w r K cK (ks.setIfInBounds i x) (((W.setCell ⟨K,i * 3,none⟩ (.int .i64 x.base)).setCell ⟨K,i * 3 + 1,none⟩ (.slice x.r.A x.r.z.size x.r.c)).setCell ⟨K,i * 3 + 2,none⟩ (.slice x.a.A x.a.z.size x.a.c)):=by
 obtain ⟨q,s⟩:=h.hK;have o:(ks.setIfInBounds i x).size=ks.size:=by simp
 have z:encP (kR r K cK (ks.setIfInBounds i x))=encP (kR r K cK ks):=by unfold kR encP;simp
 have a:∀ b t,(b≠K\/t < i * 3\/i * 3 + 3<=t)->(((W.setCell ⟨K,i * 3,none⟩ (.int .i64 x.base)).setCell ⟨K,i * 3 + 1,none⟩ (.slice x.r.A x.r.z.size x.r.c)).setCell ⟨K,i * 3 + 2,none⟩ (.slice x.a.A x.a.z.size x.a.c)).cell? ⟨b,t,none⟩=W.cell? ⟨b,t,none⟩:=by
  intro b t u;have d:∀ (V:World) (j:Nat) (v:Value),(⟨K,j,none⟩:Addr)≠⟨b,t,none⟩->(V.setCell ⟨K,j,none⟩ v).cell? ⟨b,t,none⟩=V.cell? ⟨b,t,none⟩:=fun V j v n=>vcz V _ _ v n
  rw [d _ _ _ (by intro e;injection e with e1 e2;omega),d _ _ _ (by intro e;injection e with e1 e2;omega),d _ _ _ (by intro e;injection e with e1 e2;omega)]
 have p:∀ t,t < ks.size * 3->W.cell? ⟨K,t,none⟩=some (flatK qav 3 ks)[t]!:=fun t A=>by
  have:=h.cells (i:=t / 3) jo (t % 3) (Nat.mod_lt _ jd)
  rw [show t / 3 * 3 + t % 3=t by omega] at this;rw [this,get_flatK _ _ _ _ A]
 have k:(((W.setCell ⟨K,i * 3,none⟩ (.int .i64 x.base)).setCell ⟨K,i * 3 + 1,none⟩ (.slice x.r.A x.r.z.size x.r.c)).setCell ⟨K,i * 3 + 2,none⟩ (.slice x.a.A x.a.z.size x.a.c)).heap.size=W.heap.size:=by simp
 have g:∀ y:KE,RdKE W y->RdKE (((W.setCell ⟨K,i * 3,none⟩ (.int .i64 x.base)).setCell ⟨K,i * 3 + 1,none⟩ (.slice x.r.A x.r.z.size x.r.c)).setCell ⟨K,i * 3 + 2,none⟩ (.slice x.a.A x.a.z.size x.a.c)) y:=fun y l =>
  ⟨⟨by rw [k];exact qft qnn p l.r.rd hi a,l.r.no⟩,⟨by rw [k];exact qft qno p l.a.rd hi a,l.a.no⟩⟩
 refine ⟨?_,?_,?_,?_,fun j f=>?_⟩
 .rw [z]
  exact ((h.x.far (g2:=K) jo jo _ _).far (g2:=K) jo jo _ _).far (g2:=K) jo jo _ _
 .exact ((h.z.far (g2:=K) jo jo _ _).far (g2:=K) jo jo _ _).far (g2:=K) jo jo _ _
 .rw [o,qns ks i x hi]
  exact (((h.own.stored (i * 3) _).1.stored (i * 3 + 1) _).1.stored (i * 3 + 2) _).1
 .intro j f
  rw [o] at f;by_cases c:j=i
  .subst c
   rw [getElem!_set_same ks j x hi];exact g x B
  rw [show (ks.setIfInBounds i x)[j]! = ks[j]! by rw [vbx,vbx,vbb,vao (Ne.symm c)]];exact g _ (h.kk j f)
 rw [o] at f;by_cases c:j=i
 .subst c
  rw [getElem!_set_same ks j x hi];exact m
 rw [show (ks.setIfInBounds i x)[j]! = ks[j]! by rw [vbx,vbx,vbb,vao (Ne.symm c)]];exact h.far j f
end
section
variable {α:Type} [Inhabited α] {enc:α->List Value} {k B g:Nat} {w W:World} {A:Option Addr}
theorem RdK.farG {d:Array α} (h:RdK enc k B w A d) (l:0 < d.size->∀ p,A=some p->p.block≠g) (j:∀ b,b≠g->W.heap[b]?=w.heap[b]?):RdK enc k B W A d:=fun f=>by
 obtain ⟨b,a,e,c,i⟩:=h f;exact ⟨b,a,e,c,fun t m=>(cell_far (p:=⟨b,a + t,none⟩) (j b (l f _ e))).trans (i t m)⟩
theorem RdI_R.farG {d:Array Int} (h:RdI_R B w A d) (k:0 < d.size->∀ p,A=some p->p.block≠g) (j:∀ b,b≠g->W.heap[b]?=w.heap[b]?):RdI_R B W A d:=fun f=>by
 obtain ⟨b,a,e,c,i⟩:=h f;exact ⟨b,a,e,c,fun t l=>(cell_far (p:=⟨b,a + t,none⟩) (j b (k f _ e))).trans (i t l)⟩
theorem RdN.farG {x:RW α} (h:RdN enc k w x) (d:W.heap.size=w.heap.size) (c:0 < x.z.size->∀ p,x.A=some p->p.block≠g) (a:∀ b,b≠g->W.heap[b]?=w.heap[b]?):RdN enc k W x :=
 ⟨by rw [d];exact h.rd.farG c a,h.no⟩
end
theorem RdJ.farG {w W:World} {g:Nat} {x:RW Int} (h:RdJ w x) (d:W.heap.size=w.heap.size) (c:0 < x.z.size->∀ p,x.A=some p->p.block≠g) (a:∀ b,b≠g->W.heap[b]?=w.heap[b]?):RdJ W x :=
 ⟨by rw [d];exact h.rd.farG c a,h.cz,h.no⟩
def FreshA (B:Nat) (A:Option Addr):Prop:=∀ q,A=some q->B<=q.block
theorem FreshA.mono {B a:Nat} {A:Option Addr} (h:FreshA B A) (b:a<=B):FreshA a A:=fun q c=>vax b (h q c)
theorem qgl {α:Type} [Inhabited α] {enc:α->List Value} {k:Nat} {w:World} {d:Array α} {b:Nat} {e:TypeId} {v:Value} (h:w.ownsRow b e k v d.size (flatK enc k d).toList) :
 ∃ A c,v=.slice A d.size c/\RdK enc k w.heap.size w A d/\(A=none->c=0)/\(∀ a,A=some a->b<=a.block):=by
 by_cases m:v=.slice none 0 0
 .subst m
  obtain ⟨_,⟨_,l⟩ | ⟨g,f,n,j,_⟩⟩:=h
  .exact ⟨none,0,by rw [l],fun h=>absurd l jo,fun _=>rfl,fun _ h=>by cases h⟩
  cases j
 obtain ⟨g,f,j,p,i,o⟩:=qbl h m;exact ⟨_,f,j,RdK.of_holds o i,(fun h=>by cases h),fun a h=>by injection h with h;subst h;exact p⟩
theorem SepR.monoG {r s:RP} {B a:Nat} {W:World} (h:SepR r B W s) (f:a<=B):SepR r a W s:=fun V c b d=>h V c (fun j g e=>b j jo e) d
def e12:EN:=⟨12,1,6,0,0,0,0,0,⟨#[]⟩,none,0,#[]⟩
structure PrbR (s:RP):Prop where
 h:s.n=3/\s.f=1/\s.self=2/\s.seq=0/\s.floor=0/\s.ticks=0/\s.lt=0/\s.lid=0/\s.count=0
 c:0<=s.clock/\s.clock<=1000000
 e:s.e.z=#[]\/s.e.z=#[e12]
 o:s.o.z=#[]
 k:s.k.z.size=3/\∀ i,i < 3->s.k.z[i]!.kn=⟨0,#[],#[]⟩
 m:NewM 3 s.m.z
 fr:s.fr.z=#[0,0,0]
 d:s.d.z.size=3/\∀ i,i < 3->s.d.z[i]!.z=#[]\/s.d.z[i]!.z=#[(1,1)]
 it:s.it.z=#[]
 ss:s.ss.z=#[]
theorem e12_chk:chkT #[e12]=true/\qgh e12=true/\putC #[] e12=0/\putS #[] e12=#[e12]/\fewT #[e12]=true/\qat 12=2/\qfx 12=1:=⟨by decide,by decide,by decide,rfl,by decide,by decide,by decide⟩
theorem rng11:qam #[(1,1)]=0/\qiy #[(1,1)]=false/\qiy #[]=false/\qam #[]=0/\qbg #[(1,1)] 1=true/\qbg #[] 1=false/\chkB ⟨0,#[],#[]⟩=true/\qas (List.replicate 3 0).toArray 3=0/\qas #[0,0,0] 3=0:=by decide
theorem PrbR.chk {s:RP} (h:PrbR s):chkR s=true:=by
 obtain ⟨d,m,n,o,p,q,r,t,u⟩:=h.h;obtain ⟨x,y,z,A,B,C,D⟩:=e12_chk;obtain ⟨u1,u2,u3,u4,u5,u6,u7,u8,u9⟩:=rng11;have f:qko s=true:=by
  have v:clkB s.clock s.floor s.o.z=true:=qmw.2 ⟨by rw [p];have:=h.c;omega,fun i c=>by rw [h.o] at c;exact absurd c (vci i)⟩;unfold qko;rw [v,d,m,n,o,q,u];decide
 have g:qzq s=true:=by
  unfold qzq;rcases h.e with b | b
  .rw [show anyN s.e.z.size (farB s)=false from qgu.2 fun j a=>by rw [b] at a;exact absurd a (vci j),b]
   decide
  rw [show anyN s.e.z.size (farB s)=false from qgu.2 fun j a=>by
   rw [b] at a;obtain rfl:j=0:=by simpa using a
   unfold farB;rw [b,d]
   decide,b,x]
  rfl
 have k:qov s=true:=by
  unfold qov
  rw [h.k.1,d,show anyN 3 (fun i=>!chkB s.k.z[i]!.kn)=false from qgu.2 fun j a=>by rw [h.k.2 j a,u7];rfl,h.fr,u9,
   show qey s.m.z 3=true from qci.2 ⟨by decide,by rw [h.m.1];rfl,fun i c=>by rw [h.m.1] at c;rw [h.m.2 i c];exact u8⟩]
  decide
 have l:finB s=true:=by
  unfold finB;rw [h.d.1,d,r,t,show anyN 3 (fun i=>qiy s.d.z[i]!.z)=false from qgu.2 fun j a=>by rcases h.d.2 j a with e | e <;> rw [e] <;> assumption];decide
 unfold chkR;rw [f,g,k,l];rfl
theorem PrbR.few {s:RP} (h:PrbR s):FewP s where
 e:=by rcases h.e with e | e <;> rw [e] <;> decide
 o:=by rw [h.o];exact vaj _
 k:=by rw [h.k.1];decide
 m:=qgz.2 ⟨by rw [h.m.1];decide,fun i a=>by rw [h.m.1] at a;rw [h.m.2 i a];decide⟩
 fr:=by rw [h.fr];decide
 d:=by rw [h.d.1];decide
 kk:=fun i a=>by rw [h.k.1] at a;rw [h.k.2 i a];rfl
 dd:=fun i a=>by rw [h.d.1] at a;rcases h.d.2 i a with e | e <;> rw [e] <;> decide
 it:=by rw [h.it];exact vaj _
 ss:=by rw [h.ss];exact vaj _
theorem PrbR.put {s:RP} (h:PrbR s) {y:RW EN} (a:y.z=#[e12]):PrbR { s with e:=y } :=
 ⟨h.h,h.c,Or.inr a,h.o,h.k,h.m,h.fr,h.d,h.it,h.ss⟩
theorem is11:IsN (pAdd #[] #[(1,1)]) #[(1,1)]:=⟨NL.lit jd,fun n=>by
 rw [vbd];unfold pAdd may1 inR qcg;simp;omega⟩
theorem PrbR.fin {s:RP} (h:PrbR s) (c:∀ i,i < 3->s.d.z[i]!.z=#[]) {y:RW (RW (Int×Int))} (k:FinR s 1 1 y.z):PrbR { s with d:=y }/\doneI { s with d:=y } 12=true:=by
 obtain ⟨f,g,j,_⟩:=k;rw [h.d.1] at f g;rw [c 1 jd] at j;have b:y.z[1]!.z=#[(1,1)]:=j.uniq is11;refine ⟨⟨h.h,h.c,h.e,h.o,h.k,h.m,h.fr,⟨f,fun i e=>?_⟩,h.it,h.ss⟩,?_⟩
 .by_cases a:i=1
  .subst a;exact Or.inr b
  exact Or.inl ((g i e a).trans (c i e))
 unfold doneI;show (decide (1<=qat 12/\qat 12<=s.n) && qbg y.z[(qat 12).toNat - 1]!.z (qfx 12))=true;rw [h.h.1,show (qat 12).toNat - 1=1 by decide,b];decide
theorem bas3 {k:Array KE} {a b c:Int} (n:k.size=3) (d:k[0]!.base=a) (f:k[1]!.base=b) (g:k[2]!.base=c):qce k=#[a,b,c]:=by
 apply Array.ext (by rw [qbm,n];rfl);intro i h m;have l:i < 3:=by simpa using m
 have e:=qgv k (j:=i) jo;rw [vae _ i h] at e;rw [e];rcases (show i=0\/i=1\/i=2 by omega) with rfl | rfl | rfl
 .exact d
 .exact f
 exact g
theorem setBs (b:Int) (ids:Array Int):SetR ⟨b,#[],#[]⟩ ids ⟨b,#[],#[]⟩:=by
 refine ⟨#[],⟨NL.lit jd,fun n=>?_⟩,by decide,⟨rfl,?_,rfl⟩⟩
 .rw [vbd,qld]
  simp [inR]
 refine ⟨fun _=>IsN.fit ⟨NL.lit (d:=#[]) jd,fun n=>?_⟩ (vaj _),fun h=>absurd (by decide:qam #[]=0) h⟩;rw [vbd];unfold qmz inR;simp
theorem pr_marks (s:RP) (cs:Array Value) (f:cs=(encP s).toArray) (l:FewC s) (d:Array Int) (k:qee s=d) (W:World) (m:RdP W s) :
 Calls prog 18 #[.agg cs] W fun e a=>∃ (A:Option Addr) (c:Nat),e=.returned (.slice A d.size c)/\RdI_R a.heap.size a A d/\Below W.heap.size W a:=by
 subst f;refine (qnj s W m l).mono ?_;rintro e a ⟨⟨x,g,h,i⟩,j⟩;obtain ⟨A,c,z⟩:=x;have b:z=d:=(show z=qee s from h).trans k;subst b;exact ⟨A,c,g,i.rd,j⟩
theorem sameLit (W:World) (A:Option Addr) (c:Nat) (d:Array Int) (cs:Array Value) (h:RdI_R W.heap.size W A d) (a:cs=d.map qdq) (i:d.size<=1000) :
 Calls prog 24 #[.slice A d.size c,.slice (some ⟨W.heap.size,0,none⟩) d.size d.size] (W.alloc (.cells cs 3)) fun e b=>e=.returned (.bool true)/\Below (W.alloc (.cells cs 3)).heap.size (W.alloc (.cells cs 3)) b :=
 (qgk A (some ⟨W.heap.size,0,none⟩) c d.size d d _ _ _ (h.alloc (vaa _) _) (RdI_R.lit_K W d cs 3 a) jo).mono fun e b ⟨f,n,g⟩=>⟨by rw [f];simp,g ▸ qaj (vag _ _) n⟩
section
attribute [local go_sem ↓] qap qan
attribute [local go_sem] qaw qao qal qbb qbv
structure KbR (r:RP) (p:Nat) (kb:Array KE):Prop where
 sz:kb.size=r.k.z.size
 oth:∀ i,i < r.k.z.size->i≠p->kb[i]! = r.k.z[i]!
 me:AddR r.k.z[p]!.kn r.floor r.clock r.o.z kb[p]!.kn
 ml:kb[p]!.r.z.size<=r.k.z[p]!.r.z.size + r.k.z[p]!.a.z.size + r.o.z.size + 1
theorem KbR.chk {r:RP} {p:Nat} {c:Array KE} (h:KbR r p c) (d:chkR r=true) (e:FewM r) (j:r.self=(p:Int) + 1) (o:p < r.k.z.size):∀ i,i < r.k.z.size->ChkP c[i]!.kn/\c[i]!.r.z.size<=500/\c[i]!.a.z.size<=400:=by
 intro i a;by_cases b:i=p
 .subst b
  have k:=e.s i a (by rw [j]);have l:=e.o;have f:=qqb (qnk (qco.1 (qie d i a)) (qfo d)) h.me (by show r.k.z[i]!.a.z.size + r.o.z.size<=400;omega);have g:=f.2.2.1;have m:=h.ml;refine ⟨f.1,by omega,?_⟩;have n:c[i]!.a.z.size<=r.k.z[i]!.a.z.size + r.o.z.size:=g;omega
 rw [h.oth i a b]
 have:=e.k i a
 exact ⟨qco.1 (qie d i a),by omega,by omega⟩
structure KsR (r:RP) (kb ks:Array KE) (k:Nat):Prop where
 sz:ks.size=kb.size
 lo:∀ i,i < k->i < kb.size->(∃ ids,qnm r kb[i]!.kn ids/\SetR kb[i]!.kn ids ks[i]!.kn)/\ks[i]!.r.z.size<=1000/\ks[i]!.a.z.size<=400
 hi:∀ i,k<=i->i < kb.size->ks[i]! = kb[i]!
theorem KsR.few {r:RP} {p:Nat} {e ks:Array KE} {k K cK:Nat} (h:KsR r e ks k) (b:KbR r p e) (g:chkR r=true) (d:FewM r) (m:r.self=(p:Int) + 1) (l:p < r.k.z.size):FewC (kR r K cK ks):=by
 have f:=d.c;refine ⟨f.es,f.ee,f.o,?_,f.m,f.mm,f.fr,f.d,f.dd,?_⟩
 .show ks.size<=20
  rw [h.sz,b.sz];exact f.k
 intro i j;have a:i < ks.size:=j;rw [h.sz] at a;show ks[i]!.r.z.size<=1000/\ks[i]!.a.z.size<=1000;rcases val i k with c | c
 .have:=(h.lo i c a).2
  omega
 rw [h.hi i c a]
 have:=b.chk g d m l i (by rw [<-b.sz];exact a)
 omega
theorem KsR.put {r:RP} {c ks:Array KE} {k:Nat} {x:KE} {ids:Array Int} (h:KsR r c ks k) (j:k < c.size) (l:qnm r c[k]!.kn ids) (m:SetR c[k]!.kn ids x.kn) (f:x.r.z.size<=1000) (g:x.a.z.size<=400):KsR r c (ks.setIfInBounds k x) (k + 1):=by
 have b:∀ i,i≠k->(ks.setIfInBounds k x)[i]! = ks[i]!:=fun i d=>by
  rw [vbx,vbx,vbb,vao (Ne.symm d)]
 refine ⟨by simpa using h.sz,fun i d e=>?_,fun i d e=>by rw [b i jo];exact h.hi i jo e⟩;by_cases a:i=k
 .subst a
  rw [getElem!_set_same ks i x (by rw [h.sz];exact j)];exact ⟨⟨ids,l,m⟩,f,g⟩
 rw [b i a];exact h.lo i jo e
theorem KsR.chk {r:RP} {p:Nat} {d ks:Array KE} (h:KsR r d ks r.k.z.size) (c:KbR r p d) (e:chkR r=true) (f:FewM r) (j:r.self=(p:Int) + 1) (g:p < r.k.z.size):∀ i,i < r.k.z.size->chkB ks[i]!.kn=true:=by
 intro i b;obtain ⟨⟨k,_,a⟩,_⟩:=h.lo i b (by rw [c.sz];exact b);exact qco.2 (qwt (c.chk e f j g i b).1 a).1
theorem chk_kR {r:RP} {K cK:Nat} {ks:Array KE} (v:chkR r=true) (y:ks.size=r.k.z.size) (x:∀ i,i < r.k.z.size->chkB ks[i]!.kn=true):chkR (kR r K cK ks)=true:=by
 obtain ⟨⟨k,l,m,n,o,p,q,s,t,a,b,c,d,e,f⟩,h,u⟩:=(qbo r).1 v;refine (qbo (kR r K cK ks)).2 ⟨⟨k,l,m,n,o,p,q,s,t,a,b,?_,d,e,f⟩,⟨h.1,fun i j=>⟨vam (x i ?_),(h.2 i ?_).2⟩⟩,u⟩
 .show (ks.size:Int)=r.n
  rw [y];exact c
 .have g:i < ks.size:=j
  omega
 have g:i < ks.size:=j;omega
theorem set_few {k s:KN} {ids:Array Int} (h:ChkP k) (b:SetR k ids s):s.rs.size<=1000/\s.ats.size<=400:=by
 obtain ⟨l,_,c,a⟩:=b.ok h;exact ⟨vax a.sz c,a.chk.sz⟩
def RdQ (w W:World) (r rp:RP):Prop:=∀ W',RdP W' r->(∀ j,w.heap.size + 2<=j->j < W.heap.size->W'.heap[j]?=W.heap[j]?)->W.heap.size<=W'.heap.size->RdP W' rp
section
variable {w W W2:World} {rp r:RP}
theorem RdQ.rd (h:RdQ w W r rp) (a:RdP W r):RdP W rp:=h W a (fun _ _ _=>rfl) (vaa _)
theorem RdQ.next (h:RdQ w W r rp) (a:Below W.heap.size W W2):RdQ w W2 r rp:=fun W' c d e =>
 h W' c (fun j f b=>(d j f (vad b a.size)).trans (a.block j b)) (vax a.size e)
theorem RdQ.box (h:RdQ w W r rp) (d:∀ j,w.heap.size + 2<=j->W2.heap[j]?=W.heap[j]?) (g:W2.heap.size=W.heap.size):RdQ w W2 r rp:=fun W' b c e =>
 h W' b (fun j a f=>(c j a jo).trans (d j a)) jo
theorem RdQ.self (w W:World) (r:RP):RdQ w W r r:=fun _ h _ _=>h
theorem RdQ.sep (h:RdQ w W r rp) (g:W2.heap.size=W.heap.size) (e:∀ j,w.heap.size + 2<=j->j < W.heap.size->W2.heap[j]?=W.heap[j]?):SepR r w.heap.size W2 rp:=fun W' a b f =>
 h W' a (fun j c d=>(b j jo jo).trans (e j c d)) jo
theorem RefW.q {K cK:Nat} {ks:Array KE} (h:RefW w r K cK ks W) (k:∀ i,i < ks.size->FarN w ks[i]!):RdQ w W r (kR r K cK ks):=fun W' g d f=>by
 have b:RdW qav 3 W' ⟨some ⟨K,0,none⟩,cK,ks⟩:=by
  obtain ⟨x,e,m,l⟩:=qek (qdz (W:=W') h.own (vaa _) d)
  have:x=⟨some ⟨K,0,none⟩,cK,ks⟩:=by
   obtain ⟨o,p,n⟩:=x;have c:n=ks:=m;subst c;unfold RW.v at e;injection e with q1 q2 q3
   subst q1 q3;rfl
  rw [<-this];exact l
 refine ⟨g.e,g.o,b,fun i j=>?_,g.m,g.mm,g.fr,g.d,g.dd,g.it,g.ss⟩;have a:i < ks.size:=j;exact RdKE.apartN (h.kk i a) (k i a) d f
theorem RdQ.setM (h:RdQ w W r rp) {B:Nat} {y:RW (RW Int)} (e:OwnMM B W y) (f:w.heap.size + 2<=B):RdQ w W r { rp with m:=y }:=fun W' c a b=>by
 have g:=h W' c a b;have m:=e W' (fun j i d=>a j jo d) b;exact ⟨g.e,g.o,g.k,g.kk,m.1,m.2,g.fr,g.d,g.dd,g.it,g.ss⟩
theorem RdQ.setF (h:RdQ w W r rp) (f:Int):RdQ w W r { rp with floor:=f }:=fun W' a b c=>by
 have g:=h W' a b c;exact ⟨g.e,g.o,g.k,g.kk,g.m,g.mm,g.fr,g.d,g.dd,g.it,g.ss⟩
theorem RdQ.setO (h:RdQ w W r rp) {y:RW (Int×Int)} (j:RdN qae 2 W y) (n:∀ g c,y.A=some ⟨g,c,none⟩->w.heap.size + 2<=g):RdQ w W r { rp with o:=y }:=fun W' l f i=>by
 have g:=h W' l f i;refine ⟨g.e,⟨fun k=>?_,j.no⟩,g.k,g.kk,g.m,g.mm,g.fr,g.d,g.dd,g.it,g.ss⟩;obtain ⟨b,c,e,d,m⟩:=j.rd k;exact ⟨b,c,e,vad d i,fun t p=>(vdf (w:=W) (a:=⟨b,c + t,none⟩) (f b (n b c e) d)).trans (m t p)⟩
end
theorem qti {m:Array (RW Int)} {n:Int} {p:Nat} {x:Array Int} {y:Array (RW Int)} (e:qey m n=true) (f:qas x n=0) (h:qoh m p x y):qey y n=true:=by
 obtain ⟨a,b,c⟩:=qci.1 e;refine qci.2 ⟨a,by rw [h.1];exact b,fun i d=>?_⟩;rw [h.1] at d;rw [h.2 i d];split
 .exact f
 exact c i d
end
