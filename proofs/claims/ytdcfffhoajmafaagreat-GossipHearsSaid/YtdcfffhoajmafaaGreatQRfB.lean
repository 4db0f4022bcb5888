/- Texts that the law leans on. -/
import Derived.Test.YtdcfffhoajmafaaGreatQOutE
import Derived.Test.YtdcfffhoajmafaaGreatQStZ
set_option maxRecDepth 100000
set_option maxHeartbeats 32000000
namespace Go.Proofs.YtdcfffhoajmafaaGreat
open Go.RowKit Go.Sort Go.Lib Go.Proofs.Tryz
section
attribute [local go_sem ↓] qap qan
attribute [local go_sem] qaw qao qal qbb qbv
theorem keOfG {B:Nat} {w:World} {v:Value} {k:KN} (h:KnG B w v k):∃ x:KE,v=.agg (qav x).toArray/\x.kn=k/\RdKE w x/\(0 < x.r.z.size->∀ g a,x.r.A=some ⟨g,a,none⟩->B<=g)/\(∀ g a,x.a.A=some ⟨g,a,none⟩->B<=g):=by
 obtain ⟨b,d,c,e,rfl,f,i,j,l,m,n⟩:=h;exact ⟨⟨k.base,⟨b,d,k.rs⟩,⟨c,e,k.ats⟩⟩,rfl,rfl,⟨⟨f,j⟩,⟨i,l⟩⟩,m,n⟩
theorem FarK.newG {w:World} {x:KE} {B:Nat} (b:w.heap.size + 2<=B) (d:0 < x.r.z.size->∀ g a,x.r.A=some ⟨g,a,none⟩->B<=g) (f:∀ g a,x.a.A=some ⟨g,a,none⟩->B<=g):FarK w x :=
 ⟨fun c g a e=>Or.inr (vax b (d c g a e)),fun _ g a e=>Or.inr (vax b (f g a e))⟩
theorem add_sz {k r:KN} {lo hi:Int} {a l:Array (Int×Int)} (c:AddA k lo hi a) (h:AddR k lo hi a r) (e:k.ats.size + a.size<=400) (d:IsN (pK k lo hi a) l):r.rs.size<=l.size:=by
 obtain ⟨g,f,_,b⟩:=h.ok c e
 have:=d.uniq f
 subst this;exact b.sz
theorem FarN.newG {w:World} {x:KE} {B:Nat} (b:w.heap.size + 2<=B) (d:0 < x.r.z.size->∀ g a,x.r.A=some ⟨g,a,none⟩->B<=g) (f:∀ g a,x.a.A=some ⟨g,a,none⟩->B<=g):FarN w x :=
 ⟨fun c g a e=>vax b (d c g a e),fun _ g a e=>vax b (f g a e)⟩
theorem rOpenF_ok (u:KE) (w:World) (h:RdKE w u) (f:ChkP u.kn) :
 Calls prog 105 #[.agg #[.int .i64 u.base,.slice u.r.A u.r.z.size u.r.c,.slice u.a.A u.a.z.size u.a.c]] w fun e d=>(∃ (A:Option Addr) (s:Array Int) (c:Nat),e=.returned (.slice A s.size c)/\OpenR u.kn s/\RdI_R d.heap.size d A s/\(∀ b o,A=some ⟨b,o,none⟩->w.heap.size<=b))/\Below w.heap.size w d:=by
 refine (rOpen_ok u.base u.r.z u.a.z u.r.A u.r.c u.a.A u.a.c w h.r.rd h.a.rd f).mono ?_;rintro e d ⟨v,i,rfl,m,a,p⟩;have j:i=(opN u.a.z.toList).toArray:=by rw [<-m]
 have l:∀ g,v.ownBlock=some g->w.heap.size<=g:=fun g e=>(a.lt g e).1
 obtain ⟨A,c,rfl,n,_⟩:=qaq (enc:=encJ) a;refine ⟨⟨A,i,c,rfl,?_,rdI_of_N n,fun b o e=>l b (by rw [e];rfl)⟩,p⟩;rw [j];exact opN_open (k:=u.kn) (qco.2 f)
theorem rdI_grown {W W':World} {A:Option Addr} {s:Array Int} {c:Option Nat} (h:RdI_R W.heap.size W A s) (k:W.grownBy W' c) (d:∀ g,c=some g->∀ b o,A=some ⟨b,o,none⟩->g≠b):RdI_R W'.heap.size W' A s:=fun m=>by
 obtain ⟨b,o,e,j,f⟩:=h m;refine ⟨b,o,e,vad j k.size,fun i n=>(vdf (w:=W) (a:=⟨b,o + i,none⟩) (k.block b j ?_)).trans (f i n)⟩;intro l;exact d b l.symm b o e rfl
theorem RdI_R.alloc_R {w:World} {A:Option Addr} {d:Array Int} (h:RdI_R w.heap.size w A d) (o:Obj):RdI_R (w.alloc o).heap.size (w.alloc o) A d:=(h.alloc (vaa _) o).mono js
theorem own_rdI {W:World} {B:Nat} {e:TypeId} {x:RW Int} {O:Array Int} (h:W.ownsRow B e 1 x.v O.size (O.toList.map (Value.int .i64))) (d:x.z=O):RdI_R W.heap.size W x.A O:=by
 obtain ⟨y,b,f,c⟩:=qcf (l:=O.toList) (by simpa using h)
 have:x=y:=by
  obtain ⟨j,k,g⟩:=x;obtain ⟨m,n,i⟩:=y;have a:g=i:=d.trans (by simpa using f.symm);unfold RW.v at b;injection b with q1 q2 q3
  subst a q1 q3;rfl
 rw [<-this] at c
 have:=c.rd
 rwa [d] at this
theorem box_set10 {W:World} {g:Nat} {T:TypeId} {cs:Array Value} (h:W.heap[g]?=some (.cells cs T (0,0))) (i:cs.size=10) (c b k l m n o p q r:Value) :
 ((((((((((W.setCell ⟨g,0,none⟩ c).setCell ⟨g,1,none⟩ b).setCell ⟨g,2,none⟩ k).setCell ⟨g,3,none⟩ l).setCell ⟨g,4,none⟩ m).setCell ⟨g,5,none⟩ n).setCell ⟨g,6,none⟩ o).setCell ⟨g,7,none⟩ p).setCell ⟨g,8,none⟩ q).setCell ⟨g,9,none⟩ r).cell? ⟨g,1,none⟩=some b:=by
 have a:∀ (V:World) (j:Nat) (v:Value),j≠1->(V.setCell ⟨g,j,none⟩ v).cell? ⟨g,1,none⟩=V.cell? ⟨g,1,none⟩:=fun V j v f=>vcz V _ _ v (by intro e;injection e with e1 e2;omega)
 rw [a _ 9 _ jd,a _ 8 _ jd,a _ 7 _ jd,a _ 6 _ jd,a _ 5 _ jd,a _ 4 _ jd,a _ 3 _ jd,a _ 2 _ jd];have d:=vdh _ g 1 _ T b (vdh W g 0 _ T c h);rw [vas _ g 1 _ _ (0,0) d];simp [i]
theorem bel10s {B:Nat} {w W:World} (h:Below B w W) {g:Nat} (a:B<=g) (b c d e f i j k l m:Value) :
 Below B w ((((((((((W.setCell ⟨g,0,none⟩ b).setCell ⟨g,1,none⟩ c).setCell ⟨g,2,none⟩ d).setCell ⟨g,3,none⟩ e).setCell ⟨g,4,none⟩ f).setCell ⟨g,5,none⟩ i).setCell ⟨g,6,none⟩ j).setCell ⟨g,7,none⟩ k).setCell ⟨g,8,none⟩ l).setCell ⟨g,9,none⟩ m) :=
 (((((((((h.setCell (p:=⟨g,0,none⟩) a _).setCell (p:=⟨g,1,none⟩) a _).setCell (p:=⟨g,2,none⟩) a _).setCell (p:=⟨g,3,none⟩) a _).setCell (p:=⟨g,4,none⟩) a _).setCell (p:=⟨g,5,none⟩) a _).setCell (p:=⟨g,6,none⟩) a _).setCell (p:=⟨g,7,none⟩) a _).setCell (p:=⟨g,8,none⟩) a _).setCell (p:=⟨g,9,none⟩) a _
theorem snocI {w:World} {a:Nat} {e:TypeId} {v:Value} {O:Array Int} {x:Int} (h:w.ownsRow a e 1 v (O.size + 1) (O.toList.map (Value.int .i64) ++ [.int .i64 x])):w.ownsRow a e 1 v (O.push x).size ((O.push x).toList.map (Value.int .i64)):=by
 simpa using h
theorem rRefS_any (r:RP) (w:World) (h:RdP w r) (hf:FewM r) (hc:chkR r=true) :
 Calls prog 41 #[.agg (encP r).toArray] w fun e C=>(∃ s:RP,e=.returned (.agg (encP s).toArray)/\RefR r s/\SepR r w.heap.size C s)/\Below w.heap.size w C:=by
 obtain ⟨i0,C6,E2,E3,E4⟩:=vbo qlv;obtain ⟨j0,C7,E1,c1,V⟩:=vbo qcc;have s0:=qgf hc;obtain ⟨p,hp⟩:∃ p:Nat,r.self=(p:Int) + 1:=⟨r.self.toNat - 1,by have:=(qew hc).2;omega⟩
 have H:p < r.k.z.size:=by have:=(qew hc).2;omega
 have E9:=hf.c.k;have HC:Hid (∀ W,Below w.heap.size w W->Calls prog 48 #[.agg (encP r).toArray] W fun e C=>e=.returned (.int .i64 0)/\Below W.heap.size W C):=fun W B=>by
  have:=qfe r W (h.below B) hf.c
  rwa [qdh hc] at this
 have n3:Hid (∀ W X,Below w.heap.size w W->Calls prog 107 #[.agg (encP r).toArray,.int .i64 X] W fun e C=>e=.returned (.bool (doneI r X))/\Below W.heap.size W C):=fun W X B=>by
  have:=rDone_any r X W (h.below B) hf.c
  unfold doneB at this
  rwa [hc,vcn] at this
 obtain ⟨bk,ok,hA,_,_⟩:=h.k.rd.at_ (i:=p) H;have c4:Hid (∀ W,Below w.heap.size w W->w.heap.size + 2<=W.heap.size->Calls prog 37 #[.agg (qav r.k.z[p]!).toArray,.int .i64 r.floor,.int .i64 r.clock,.slice r.o.A r.o.z.size r.o.c] W fun e C=>∃ x:KE,e=.returned (.tuple #[.agg (qav x).toArray,.int .i64 0])/\AddP r p x/\RdKE C x/\FarK w x/\Below W.heap.size W C):=fun W B D8=>by
  have h1:=hf.s p H (by rw [hp]);have h2:=hf.o;have b1:=(h.kk p H).below B;have q6:=qnk (qco.1 (qie hc p H)) (qfo hc);refine (rAdd_ok r.k.z[p]!.base r.k.z[p]!.r.z r.k.z[p]!.a.z r.k.z[p]!.r.A r.k.z[p]!.r.c r.k.z[p]!.a.A r.k.z[p]!.a.c r.floor r.clock r.o.z r.o.A r.o.c W b1.r.rd b1.a.rd (h.o.below B).rd b1.r.no b1.a.no q6 jo jo jo).mono fun e C ⟨v,kn,he,hv,ha,⟨l,hl,C8⟩,f4⟩=>?_
  obtain ⟨x,rfl,rfl,R,f1,f2⟩:=keOfG hv;have i8:=add_sz q6 ha (by show r.k.z[p]!.a.z.size + r.o.z.size<=400;omega) hl;exact ⟨x,he,⟨ha,vax i8 C8⟩,R,FarK.newG D8 f1 f2,f4⟩
 have a2:=hI h;have d1:=hI hf;have a7:=hI hc;obtain ⟨cs,a5⟩:∃ cs,cs=(encP r).toArray:=⟨_,rfl⟩
 obtain ⟨i8,F2⟩:=rowP a5;have a8:=hI a5;have o7:Hid (cs[9]?=some (.slice r.k.A r.k.z.size r.k.c)):=by show _=_;rw [a5];rfl
 have HP:=hI hp;have g6:=hI s0;have D9:IntKind.i64.wrap (p:Int)=(p:Int):=vcu _ jo;have D3:(p:Int) < (r.k.z.size:Int):=by omega
 rw [<-a5] at HC n3;have m3:∀ x:Array Value,cs=x->Calls prog 41 #[.agg x] w fun e C=>(∃ s:RP,e=.returned (.agg (encP s).toArray)/\RefR r s/\SepR r w.heap.size C s)/\Below w.heap.size w C:=by
  rintro _ rfl;simp only [encP] at a5;clear h hf hc hp hA s0;rw [a5];go_in;rw [<-a5];clear a5;have HX:=hI (BoxG.fst w cs qby 35 35);have HZ:=hI (BoxG.snd w cs qby 35 35);simp only [qby] at HX HZ;have x1:=HX.out.box i8;have x2:=HX.out.rowAt
  go_wp2_with (first
   | (go_at_call 48;refine (HC.out _ HX.out.b).mono ?_;rintro _ w1 ⟨rfl,B⟩;have g9:=hI (HX.out.next B);have l1:=hI (HZ.out.next B);clear B x1 x2;have c9:=(g9.out.next (bel1 w1 (.cells #[] 66))).at_ 9 o7.out)
   | (at_builtin;refine qcq quz qic jd rfl _ _ 24 rfl w1.heap.size 66 i0 (.agg #[.int .i64 0,.slice none 0 0,.slice none 0 0]) 56 underlying24 C6 E2 E3 E4 rfl _ #[] rfl (qba w1 66 qav 3) w1.heap.size r.k.A r.k.c r.k.z rfl ((a2.out.k.below g9.out.b).rd.alloc (vaa _) _) a2.out.k.no jso jd js ?_;intro v1 E Q r8 _;have Q:E.ownsRow w1.heap.size 66 3 v1 r.k.z.size (flatK qav 3 r.k.z).toList:=(by simpa using Q);obtain ⟨K,cK,rfl,B9,C0⟩:=qif Q jo;have e0:Hid (Below w1.heap.size w1 E):=hI ((bel1 w1 _).grown r8 js (fun k hk=>((qba w1 66 qav 3).lt k hk).1));have d5:=hI (g9.out.next e0.out);have l2:=hI (l1.out.next e0.out);have q3:=l1.out.lt;have o0:=hI Q;clear Q r8 c9))
  have HN:Hid (KnB w K cK r.k.z E):=hI ⟨qdj o0.out jo,fun i T=>(a2.out.kk i T).below d5.out.b,fun i T=>FarK.old (a2.out.kk i T)⟩;clear HX HZ g9 l1 o0 e0 q3 B9 C0 o7 HC
  go_cut [5,6] from 23 to 38 (fun v5 v6 wx=>∃ (g:Nat) (x:KE),v5=.pointer (some ⟨g,0,none⟩)/\v6=.int .i64 0/\Hid (AddP r p x)/\Hid (FarK w x)/\Hid (RdKE wx x)/\Hid (wx.heap[g]?=some (.cells (qav x).toArray 66 (0,0)))/\Hid (w.heap.size + 2<=g/\g≠K)/\Hid (KnB w K cK r.k.z wx)/\Hid (BoxG w w.heap.size cs 35 wx)/\Hid (BoxG w (w.heap.size + 1) qby 35 wx))
  case first =>
   have q8:Below E.heap.size E E:=vag _ _;obtain ⟨u,hu⟩:∃ u,r.k.z[p]! = u:=⟨_,rfl⟩
   have BW:=hI (fun (W:World) (B:Below E.heap.size E W)=>qaa d5.out.b B);have C1:=HN.out.hK;have BS:=hI (fun (W:World) (B:Below E.heap.size E W)=>(show w.heap.size + 2<=W.heap.size from by have:=B.size;omega));clear C1;have h2:cs[2]?=some (.int .i64 ((p:Int) + 1)):=by rw [a8.out,<-HP.out];rfl
   have h3:cs[3]?=some (.int .i64 r.clock):=by rw [a8.out];rfl
   have h5:cs[5]?=some (.int .i64 r.floor):=by rw [a8.out];rfl
   have h8:cs[8]?=some (.slice r.o.A r.o.z.size r.o.c):=by rw [a8.out];rfl
   have k4:=hI h2;have x4:=hI h3;have x5:=hI h5;have x7:=hI h8;clear h2 h3 h5 h8;have KS:Hid (∀ W,Below E.heap.size E W->Below E.heap.size E W/\W.cell? ⟨w.heap.size,2,none⟩=some (.int .i64 ((p:Int) + 1))/\W.cell? ⟨w.heap.size,5,none⟩=some (.int .i64 r.floor)/\W.cell? ⟨w.heap.size,3,none⟩=some (.int .i64 r.clock)/\W.cell? ⟨w.heap.size,8,none⟩=some (.slice r.o.A r.o.z.size r.o.c)/\W.cell? ⟨K,p * 3,none⟩=some (.int .i64 u.base)/\W.cell? ⟨K,p * 3 + 1,none⟩=some (.slice u.r.A u.r.z.size u.r.c)/\W.cell? ⟨K,p * 3 + 2,none⟩=some (.slice u.a.A u.a.z.size u.a.c)):=fun W B=>by
    have R:=d5.out.next B;have hw:=HN.out.next B;exact ⟨B,R.at_ 2 k4.out,R.at_ 5 x5.out,R.at_ 3 x4.out,R.at_ 8 x7.out,hu ▸ hw.cells H 0 jo,hu ▸ hw.cells H 1 jo,hu ▸ hw.cells H 2 jo⟩
   rw [hu] at c4;simp only [qav] at c4;clear hu;go_region_held3 (fun W=>Below E.heap.size E W/\W.cell? ⟨w.heap.size,2,none⟩=some (.int .i64 ((p:Int) + 1))/\W.cell? ⟨w.heap.size,5,none⟩=some (.int .i64 r.floor)/\W.cell? ⟨w.heap.size,3,none⟩=some (.int .i64 r.clock)/\W.cell? ⟨w.heap.size,8,none⟩=some (.slice r.o.A r.o.z.size r.o.c)/\W.cell? ⟨K,p * 3,none⟩=some (.int .i64 u.base)/\W.cell? ⟨K,p * 3 + 1,none⟩=some (.slice u.r.A u.r.z.size u.r.c)/\W.cell? ⟨K,p * 3 + 2,none⟩=some (.slice u.a.A u.a.z.size u.a.c)) (exact KS.out _ (by first | assumption | exact vaq jN | exact qab jy _ | exact (qab jN _).drew | exact ((Below.setCell (p:=⟨E.heap.size,0,none⟩) jN (vaa _) _).setCell (p:=⟨E.heap.size,1,none⟩) (vaa _) _).setCell (p:=⟨E.heap.size,2,none⟩) (vaa _) _))
    (first
      | (go_at_call 37;((with_reducible refine (c4.out _ (BW.out _ jw) (BS.out _ jw)).mono ?_);rintro e z ⟨x,rfl,q7,s7,r7,t⟩;have d:Below E.heap.size E z:=qaa jw t;have d0:=hI q7;have e6:=hI s7;have N:=hI r7;clear q7 s7 r7;(try (have J:z.heap[E.heap.size]?=some (.cells #[.int .i64 0,.slice none 0 0,.slice none 0 0] 66 (0,0)):=(t.block E.heap.size js).trans (vaw E _);have z0:z.cell? ⟨E.heap.size,0,none⟩=some (.int .i64 0):=(vas z _ 0 _ _ (0,0) J).trans rfl;have z1:z.cell? ⟨E.heap.size,1,none⟩=some (.slice none 0 0):=(vas z _ 1 _ _ (0,0) J).trans rfl;have z2:z.cell? ⟨E.heap.size,2,none⟩=some (.slice none 0 0):=(vas z _ 2 _ _ (0,0) J).trans rfl;have y0:z.frozen? ⟨E.heap.size,0,none⟩=false:=(by simp [World.frozen?,J]);have y1:z.frozen? ⟨E.heap.size,1,none⟩=false:=(by simp [World.frozen?,J]);have y2:z.frozen? ⟨E.heap.size,2,none⟩=false:=(by simp [World.frozen?,J]);have HQ:=hI J;clear J));clear t)))
   .go_wp2
    go_meet;have f3:=HN.out.hK;have F7:=d.size;exact ⟨z.heap.size,x,rfl,rfl,d0,N,e6.out.below (bel1 z _),vaw z _,⟨by omega,by omega⟩,HN.out.next (qab d _),d5.out.next (qab d _),l2.out.next (qab d _)⟩
   go_wp2;go_meet;have f3:=HN.out.hK;have l9:=((d.setCell (p:=⟨E.heap.size,0,none⟩) (vaa _) (.int .i64 x.base)).setCell (p:=⟨E.heap.size,1,none⟩) (vaa _) (.slice x.r.A x.r.z.size x.r.c)).setCell (p:=⟨E.heap.size,2,none⟩) (vaa _) (.slice x.a.A x.a.z.size x.a.c);exact ⟨E.heap.size,x,rfl,rfl,d0,N,qly HQ.out e6.out _ _ _,qqv HQ.out _ _ _,⟨by omega,by omega⟩,HN.out.next l9,d5.out.next l9,l2.out.next l9⟩
  case rest =>
   obtain ⟨g,x,rfl,rfl,d0,N,e6,d2,v8,HN,HX,HZ⟩:=hcut;clear c4 d5 l2;have f3:=HN.out.hK;have F1:¬ w.heap.size=K:=by omega
   have h2:cs[2]?=some (.int .i64 ((p:Int) + 1)):=by rw [a8.out,<-HP.out];rfl
   have c2:=HX.out.at_ 2 h2;have g0:wc.cell? ⟨g,0,none⟩=some (.int .i64 x.base):=(vas wc g 0 _ _ (0,0) d2.out).trans rfl;have g1:wc.cell? ⟨g,1,none⟩=some (.slice x.r.A x.r.z.size x.r.c):=(vas wc g 1 _ _ (0,0) d2.out).trans rfl;have g2:wc.cell? ⟨g,2,none⟩=some (.slice x.a.A x.a.z.size x.a.c):=(vas wc g 2 _ _ (0,0) d2.out).trans rfl;have k0:=HN.out.cells H 0 jo;have k1:=HN.out.cells H 1 jo;have k2:=HN.out.cells H 2 jo;have q0:=HN.out.froz (p * 3);have q1:=HN.out.froz (p * 3 + 1);have q2:=HN.out.froz (p * 3 + 2);generalize (qav r.k.z[p]!)[0]! = y0 at k0;generalize (qav r.k.z[p]!)[1]! = y1 at k1;generalize (qav r.k.z[p]!)[2]! = y2 at k2;rw [vak] at k0;go_wp2;have e5:=hI (HN.out.put H e6.out N.out);have h6:=hI (HX.out.put3 (by omega:w.heap.size<=K) jo p x);have l3:=hI (HZ.out.put3 (by omega:w.heap.size<=K) jo p x);obtain ⟨wl,t1⟩:∃ W,W=(((wc.setCell ⟨K,p * 3,none⟩ (.int .i64 x.base)).setCell ⟨K,p * 3 + 1,none⟩ (.slice x.r.A x.r.z.size x.r.c)).setCell ⟨K,p * 3 + 2,none⟩ (.slice x.a.A x.a.z.size x.a.c)):=⟨_,rfl⟩
   unfold put3 at e5 h6 l3;rw [<-t1] at e5 h6 l3 |-
   obtain ⟨kb,d8⟩:∃ kb,r.k.z.setIfInBounds p x=kb:=⟨_,rfl⟩
   have a1:Hid (KbR r p kb):=by
    refine ⟨by rw [<-d8];simp,fun i T U=>?_,?_,?_⟩
    .rw [<-d8,vbx,vbx,vbb,vao (Ne.symm U)]
    .rw [<-d8,getElem!_set_same _ p x H];exact d0.out.1
    rw [<-d8,getElem!_set_same _ p x H];exact d0.out.2
   rw [d8] at e5;have F0:kb.size=r.k.z.size:=a1.out.sz;have b3:=hI H;clear t1 d8 d0 e6 d2 v8 HN HX HZ f3 c2 g0 g1 g2 k0 k1 k2 q0 q1 q2 D9 D3 H h2
   go_loopw [3,7] (fun v i wr=>∃ (k:Nat) (O:Array Int),i=.int .i64 k/\k<=r.k.z.size/\wr.ownsRow wl.heap.size 3 1 v O.size (O.toList.map (Value.int .i64))/\Hid (OvP r kb k O.toList)/\Hid (Below wl.heap.size wl wr)) (fun _ i _=>r.k.z.size - (intOf i).toNat)
   case atStart=>exact ⟨0,#[],rfl,vaj _,vcj _ _ _ _,hI (OvP.zero r kb),hI (vag _ _)⟩
   case round =>
    obtain ⟨k,O,rfl,hk,Z,g7,e2⟩:=hrel;by_cases a6:k < r.k.z.size
    .have kz:(k:Int) < (kb.size:Int):=by omega
     have I:k < kb.size:=by omega
     have F:=hI (e5.out.next e2.out);have a0:=hI (a1.out.chk a7.out d1.out HP.out b3.out k a6);have b2:=hI (fun s=>g7.out.enter s);obtain ⟨u,hu⟩:∃ u,kb[k]! = u:=⟨_,rfl⟩
     have k0:=F.out.cells I 0 jo;have k1:=F.out.cells I 1 jo;have k2:=F.out.cells I 2 jo;have k8:Hid (RdKE wr u):=by show RdKE wr u;rw [<-hu];exact F.out.kk k I
     have HU:=hI hu;rw [hu] at k0 k1 k2 a0;simp only [qav,vac,vaf,vak] at k0 k1 k2;have o2:=hI (rOpenF_ok u wr k8.out a0.out.1);have s1:∀ g,u3.ownBlock=some g->g < wr.heap.size:=fun g e=>(Z.lt g e).2
     clear hu;go_wp2_with (go_at_call 105;refine o2.out.mono ?_;rintro _ w3 ⟨⟨A,s,cA,rfl,s2,s6,r5⟩,l7⟩;have o3:=hI s2;have A8:=hI s6;have t9:=hI (qaa e2.out l7);have m8:=qeh Z l7;have t7:Hid (∀ g,u3.ownBlock=some g->∀ b o,A=some ⟨b,o,none⟩->g≠b):=hI (fun g e b o eb=>by have:=s1 g e;have:=r5 b o eb;omega);clear s2 s6 r5 l7 k0 k1 k2);have o1:=hI (b2.out s);have C2:O.size<=8000:=by have:=g7.out.2;simp at this;omega
     have D7:s.size<=400:=by have:=qtr o3.out;have:=a0.out.2.2;have e:u.kn.ats.size=u.a.z.size:=rfl;omega
     clear Z s1 o2 b2
     go_loopw [3,9] (fun v j wi=>∃ (n:Nat) (P:Array Int),j=.int .i64 n/\n<=s.size/\wi.ownsRow wl.heap.size 3 1 v P.size (P.toList.map (Value.int .i64))/\Hid (OvI r kb k s n P.toList)/\Hid (Below wl.heap.size wl wi)/\Hid (RdI_R wi.heap.size wi A s)/\Hid (∀ g,v.ownBlock=some g->∀ b o,A=some ⟨b,o,none⟩->g≠b)) (fun _ j _=>s.size - (intOf j).toNat)
     case atStart=>exact ⟨0,O,rfl,vaj _,m8,o1,t9,A8,t7⟩
     case round =>
      obtain ⟨n,P,rfl,hn,b8,b2,j8,o9,j6⟩:=hrel;have F6:P.size<=8400:=by have:=b2.out.2;simp at this;omega
      by_cases a6:n < s.size
      .have nz:(n:Int) < (s.size:Int):=by omega
       have i2:=hI (h6.out.next j8.out);obtain ⟨bs,os,rfl,b6,fs⟩:=o9.out jo;have en:=fs n a6;have l0:=hI (fun (e:overB r s[n]! = true)=>b2.out.yes a6 e);have k5:=hI (fun (e:overB r s[n]! = false)=>b2.out.no a6 e);obtain ⟨X,r9⟩:∃ X,s[n]! = X:=⟨_,rfl⟩
       rw [r9] at en l0 k5;clear fs r9;have g5:Hid (∀ W,Below wr.heap.size wr W->Calls prog 106 #[.slice r.e.A r.e.z.size r.e.c,.int .i64 X] W fun e C=>(∃ x:EN×Bool,e=.returned (.tuple #[.agg (encE x.1).toArray,.bool x.2])/\FindR r.e.z X x)/\Below W.heap.size W C):=fun W B =>
        rFind_any r.e.A r.e.c r.e.z X W ((a2.out.below (qaa i2.out.b B)).e) (jg d1.out.c.es)
       simp only [encE] at g5;have h7:cs[7]?=some (.slice r.e.A r.e.z.size r.e.c):=by rw [a8.out];rfl
       have x6:=hI h7;have j9:=hI en;have KS:Hid (∀ W,Below wr.heap.size wr W->Below wr.heap.size wr W/\W.cell? ⟨w.heap.size,7,none⟩=some (.slice r.e.A r.e.z.size r.e.c)/\W.cell? ⟨bs,os + n,none⟩=some (.int .i64 X)):=fun W B =>
        ⟨B,(i2.out.next B).at_ 7 x6.out,(B.cell (p:=⟨bs,os + n,none⟩) b6).trans j9.out⟩
       have q8:Below wr.heap.size wr wr:=vag _ _;have g4:=hI b6;clear h7 en b6;go_upto_region 15 with fail
       go_cut [10,11] from 64 to 73 (fun E5 E6 wx=>∃ (g:Nat) (x:EN×Bool),E5=.pointer (some ⟨g,0,none⟩)/\E6=.bool x.2/\Hid (FindR r.e.z X x)/\Hid (wx.cell? ⟨g,1,none⟩=some (.int .i64 x.1.ph))/\Hid (Below wr.heap.size wr wx)/\Hid (g < wx.heap.size))
       case first =>
        refine qct (S:=fun W=>W.cell? ⟨w.heap.size,7,none⟩=some (.slice r.e.A r.e.z.size r.e.c)/\W.cell? ⟨bs,os + n,none⟩=some (.int .i64 X)) jk ?_;have d7:Below wr.heap.size wr wr.drew:=(vag _ _).drew;have hS:=(KS.out _ d7).2;refine tkG 65 0 hS ?_ (ha:=tzq);refine tkG 66 1 hS ?_ (ha:=tzq);refine tkG 67 2 hS ?_ (ha:=tzq);refine tkG 68 3 hS ?_ (ha:=tzq);refine tkG 69 4 hS ?_ (ha:=tzq);refine tkG 70 5 hS ?_ (ha:=tzq);refine qdt (rs:=[6,10]) jk js (AllReadyE.cons rfl (fun K' f0=>?_) (AllReadyE.cons rfl (fun K' f0=>?_) AllReadyE.nil))
        .go_simp
         refine (g5.out _ d7).mono ?_;rintro e z ⟨⟨x,rfl,R⟩,t⟩;have d:Below wr.heap.size wr z:=qaa d7 t;have N:=hI R;refine f0.out _ _ (KS.out _ d).2 (fun _=>?_);clear f0 K' hS R t;have hS:=(KS.out _ d).2;refine tkG 64 7 hS ?_ (ha:=tzq);refine tkG 72 8 hS ?_ (ha:=tzq);refine tkG 73 9 hS ?_ (ha:=tzq);refine rdy1 10 rfl (fun K hK=>?_);go_simp;refine hK.out _ _ (KS.out _ (qab d _)).2 (fun _=>?_);clear hK K;refine rdy1 11 rfl (fun K hK=>?_);go_simp;refine hK.out _ _ (KS.out _ (qab d _)).2 (fun _=>?_);clear hK K;refine tkG 11 12 (KS.out _ (qab d _)).2 ?_ (ha:=tzq);refine qbw jk ?_ _;go_wp2;go_meet;exact ⟨z.heap.size,x,rfl,rfl,N,(vas _ _ 1 _ _ (0,0) (vaw z _)).trans rfl,qab d _,hI js⟩
        go_simp;refine f0.out _ _ (KS.out _ (qab d7 _)).2 (fun _=>?_);clear f0 K' hS;refine rdy1 6 rfl (fun K hK=>?_);go_simp;refine (g5.out _ (qab d7 _)).mono ?_;rintro e z ⟨⟨x,rfl,R⟩,t⟩;have d:Below wr.heap.size wr z:=qaa (qab d7 _) t;have N:=hI R;have J:z.heap[wr.heap.size]?=some (.cells #[.int .i64 0,.int .i64 0,.int .i64 0,.int .i64 0,.int .i64 0,.int .i64 0,.int .i64 0,.int .i64 0,.string ⟨#[]⟩,.slice none 0 0] 58 (0,0)):=(t.block wr.heap.size js).trans (vaw wr _);refine hK.out _ _ (KS.out _ d).2 (fun _=>?_);clear hK K R t;have hS:=(KS.out _ d).2;refine tkG 64 7 hS ?_ (ha:=tzq);refine tkG 72 8 hS ?_ (ha:=tzq);refine tkG 73 9 hS ?_ (ha:=tzq);have z0:z.cell? ⟨wr.heap.size,0,none⟩=some (.int .i64 0):=(vas z _ 0 _ _ (0,0) J).trans rfl;have z1:z.cell? ⟨wr.heap.size,1,none⟩=some (.int .i64 0):=(vas z _ 1 _ _ (0,0) J).trans rfl;have z2:z.cell? ⟨wr.heap.size,2,none⟩=some (.int .i64 0):=(vas z _ 2 _ _ (0,0) J).trans rfl;have z3:z.cell? ⟨wr.heap.size,3,none⟩=some (.int .i64 0):=(vas z _ 3 _ _ (0,0) J).trans rfl;have z4:z.cell? ⟨wr.heap.size,4,none⟩=some (.int .i64 0):=(vas z _ 4 _ _ (0,0) J).trans rfl;have z5:z.cell? ⟨wr.heap.size,5,none⟩=some (.int .i64 0):=(vas z _ 5 _ _ (0,0) J).trans rfl;have z6:z.cell? ⟨wr.heap.size,6,none⟩=some (.int .i64 0):=(vas z _ 6 _ _ (0,0) J).trans rfl;have z7:z.cell? ⟨wr.heap.size,7,none⟩=some (.int .i64 0):=(vas z _ 7 _ _ (0,0) J).trans rfl;have z8:z.cell? ⟨wr.heap.size,8,none⟩=some (.string ⟨#[]⟩):=(vas z _ 8 _ _ (0,0) J).trans rfl;have z9:z.cell? ⟨wr.heap.size,9,none⟩=some (.slice none 0 0):=(vas z _ 9 _ _ (0,0) J).trans rfl;have yf:∀ j,z.frozen? ⟨wr.heap.size,j,none⟩=false:=fun j=>by simp [World.frozen?,J]
        have y0:=yf 0;have y1:=yf 1;have y2:=yf 2;have y3:=yf 3;have y4:=yf 4;have y5:=yf 5;have y6:=yf 6;have y7:=yf 7;have y8:=yf 8;have y9:=yf 9;have HQ:=hI J;clear J yf;refine rdy1 11 rfl (fun K hK=>?_);go_simp;refine hK.out _ _ (KS.out _ (bel10s d (vaa _) _ _ _ _ _ _ _ _ _ _)).2 (fun _=>?_);clear hK K;refine tkG 11 12 (KS.out _ (bel10s d (vaa _) _ _ _ _ _ _ _ _ _ _)).2 ?_ (ha:=tzq);refine qbw jk ?_ _;go_wp2;go_meet;exact ⟨wr.heap.size,x,rfl,rfl,N,box_set10 HQ.out rfl _ _ _ _ _ _ _ _ _ _,bel10s d (vaa _) _ _ _ _ _ _ _ _ _ _,hI (by have:=qcj HQ.out;simpa using this)⟩
       case rest =>
        obtain ⟨g,x,rfl,rfl,N,d2,e1,v9⟩:=hcut;obtain ⟨wd,rfl⟩:∃ W,W=wc:=⟨_,rfl⟩
        have j2:Hid (overB r X=((x.2 && decide (5<=x.1.ph)) || doneI r X)):=hI (find_over (qwh a7.out) N.out);obtain ⟨b5,C4⟩:∃ b,decide (5<=x.1.ph)=b:=⟨_,rfl⟩
        obtain ⟨bt,m1⟩:∃ b,x.2=b:=⟨_,rfl⟩
        obtain ⟨bd,m0⟩:∃ b,doneI r X=b:=⟨_,rfl⟩
        obtain ⟨q,J⟩:∃ q,overB r X=q:=⟨_,rfl⟩
        rw [C4,m1,m0,J] at j2;rw [J] at l0 k5;have v4:Hid (∀ W,Below wd.heap.size wd W->Calls prog 107 #[.agg cs,.int .i64 X] W fun e C=>e=.returned (.bool bd)/\Below W.heap.size W C):=fun W B=>m0 ▸ n3.out W X (qaa i2.out.b (qaa e1.out B))
        have p3:=hI (i2.out.next e1.out);have r1:=(e1.out.cell (p:=⟨bs,os + n,none⟩) g4.out).trans j9.out;have B5:=fun p:ExtW wd=>(p3.out.next p.h).box i8
        have B6:=fun p:ExtW wd=>(p3.out.next p.h).rowAt
        have B7:=fun p:ExtW wd=>p.cell (a:=⟨bs,os + n,none⟩) (vad g4.out e1.out.size) r1
        have B8:=fun p:ExtW wd=>p.cell (a:=⟨g,1,none⟩) v9.out d2.out
        rw [m1];have n2:=hI (fun p:ExtW wd=>v4.out p.to p.h);clear m0 J m1 r1 N;go_upto_region 16 with fail
        go_cut [87] from 74 to 86 (fun v wx=>v=.bool q/\Hid (Below wd.heap.size wd wx))
        case first =>
         have k7:=hI j2.out;cases bt
         .refine wprX ?_
          repeat (first | go_big_quiet_step ((go_at_call 107;exact Calls.ext_of (n2.out _))) | quiet_step (fail))
          refine wpQn fun C b4=>?_
          go_wp2;go_meet;exact ⟨congrArg Value.bool (by rw [k7.out];rfl),hI b4⟩
         cases b5
         .refine wprX ?_
          repeat (first | go_big_quiet_step ((go_at_call 107;exact Calls.ext_of (n2.out _))) | quiet_step (fail))
          refine wpQn fun C b4=>?_
          go_wp2;go_meet;exact ⟨congrArg Value.bool (by rw [k7.out];rfl),hI b4⟩
         refine wprX ?_
         repeat (go_big_quiet_step (fail))
         refine wpQn fun C b4=>?_
         go_wp2;go_meet;exact ⟨congrArg Value.bool (by rw [k7.out];rfl),hI b4⟩
        case rest =>
         obtain ⟨rfl,v0⟩:=hcut;have Y:=hI (qaa e1.out v0.out);have e3:=hI (qaa j8.out Y.out);have b7:=qeh b8 Y.out;have o8:=hI ((o9.out.below Y.out).mono Y.out.size);have E8:=(Y.out.cell (p:=⟨bs,os + n,none⟩) g4.out).trans j9.out;have F3:=e3.out.size;clear B5 B6 B7 B8 b8 g5 KS;cases q
         .have n9:=hI (k5.out rfl)
          go_wp2;go_roundw
          case rel=>exact ⟨n + 1,P,by go_num,by omega,b7,n9,e3,o8,j6⟩
          case measure=>simp [intOf];omega
         have p6:=hI (l0.out rfl)
         go_wp2_with (at_builtin;refine wpList_append_own_at _ rfl _ _ 26 rfl wl.heap.size 3 j0 (.int .i64 0) 1 8 underlying26 C7 E1 c1 V rfl jd _ _ _ rfl (World.ownsRow.alloc b7 _) ⟨wc.heap.size,0,none⟩ 1 1 [.int .i64 X] rfl rfl (qdr _ _ _) jV jl jo jso ?_;intro v' w4 m9 f7 _ C3;have v2:=hI (qcr e3.out b7 f7);have A9:=hI (rdI_grown (o8.out.alloc_R _) f7 j6.out);have t8:Hid (∀ g,v'.ownBlock=some g->∀ b o,(some ⟨bs,os,none⟩:Option Addr)=some ⟨b,o,none⟩->g≠b):=hI (fun g eg b o eb=>by
          rcases C3 with ha | ha
          .exact j6.out g (ha ▸ eg) b o eb
          rw [ha] at eg;injection eg with eg
          injection eb with eb
          injection eb with eb
          have:=vad g4.out Y.out.size
          simp at eg
          omega))
         go_roundw
         case rel=>exact ⟨n + 1,P.push X,by go_num,by omega,snocI m9,by rw [vdw];exact p6,v2,A9,t8⟩
         case measure=>simp [intOf];omega
      have g3:decide ((n:Int) < (s.size:Int))=false:=vab jo;have C9:n=s.size:=by omega
      have A1:Hid (OvP r kb (k + 1) P.toList):=hI (by
       have h1:=b2.out;rw [C9] at h1;refine h1.leave ?_ ?_ ?_
       .rw [HU.out];exact o3.out
       .rw [HU.out];exact qco.2 a0.out.1
       rw [HU.out];exact a0.out.2.2)
      go_wp2;go_roundw
      case rel=>exact ⟨k + 1,P,by go_num,by omega,b8,A1,j8⟩
      case measure=>simp [intOf];omega
    have g3:decide ((k:Int) < (kb.size:Int))=false:=vab jo;obtain rfl:k=r.k.z.size:=by omega
    obtain ⟨wo,rfl⟩:∃ W,W=wr:=⟨_,rfl⟩
    obtain ⟨xo,E0,t3,_⟩:=qcf (l:=O.toList) (by simpa using Z);subst E0;have C2:O.size<=8000:=by have:=g7.out.2;simp at this;omega
    have p2:Hid (xo.z=O):=hI (by simpa using t3);have n6:Hid (KsR r kb kb 0):=⟨rfl,fun i T=>absurd T (vci i),fun i _ _=>rfl⟩
    have A0:=hI (e5.out.next e2.out);have a3:=hI (h6.out.next e2.out);have i4:=hI (l3.out.next e2.out);have o4:=hI Z;have hv:xo.v=.slice xo.A O.size xo.c:=by unfold RW.v;rw [p2.out]
    rw [hv] at o4 |-
    have HV:=hI hv;clear Z t3 hv g3 a6;go_wp2
    go_loopw [12] (fun i wi=>∃ (k:Nat) (L:Array KE),i=.int .i64 k/\k<=r.k.z.size/\Hid (KsR r kb L k)/\Hid (∀ i,i < k->FarN w L[i]!)/\Hid (KnB w K cK L wi)/\Hid (BoxG w w.heap.size cs 35 wi)/\Hid (BoxG w (w.heap.size + 1) qby 35 wi)/\Hid (wi.ownsRow wl.heap.size 3 1 (.slice xo.A O.size xo.c) O.size (O.toList.map (Value.int .i64)))) (fun i _=>r.k.z.size - (intOf i).toNat)
    case atStart=>exact ⟨0,kb,rfl,vaj _,n6,hI (fun i T=>absurd T (vci i)),A0,a3,i4,o4⟩
    case round =>
     obtain ⟨k,L,rfl,hk,d3,n5,F,b0,d6,k6⟩:=hrel;have f3:=F.out.hK;have d9:L.size=r.k.z.size:=d3.out.sz.trans a1.out.sz;by_cases a6:k < r.k.z.size
     .have kz:(k:Int) < (kb.size:Int):=by omega
      have I:k < L.size:=by omega
      have a0:=hI (a1.out.chk a7.out d1.out HP.out b3.out k a6);have HE:=hI (d3.out.hi k (vaa _) jo);obtain ⟨u,hu⟩:∃ u,L[k]! = u:=⟨_,rfl⟩
      have k0:=F.out.cells I 0 jo;have k1:=F.out.cells I 1 jo;have k2:=F.out.cells I 2 jo;have k8:Hid (RdKE wr u):=by show RdKE wr u;rw [<-hu];exact F.out.kk k I
      rw [hu] at k0 k1 k2 HE;simp only [qav,vac,vaf,vak] at k0 k1 k2;have HU:=hI hu;have B0:Hid (Calls prog 108 #[.agg #[.int .i64 u.base,.slice u.r.A u.r.z.size u.r.c,.slice u.a.A u.a.z.size u.a.c],.slice xo.A O.size xo.c] wr fun e C=>∃ y:KE,e=.returned (.agg #[.int .i64 y.base,.slice y.r.A y.r.z.size y.r.c,.slice y.a.A y.a.z.size y.a.c])/\SetR u.kn O y.kn/\RdKE C y/\FarN w y/\Below wr.heap.size wr C):=by
       have C5:ChkP u.kn:=by rw [HE.out];exact a0.out.1
       have D5:u.r.z.size<=500:=by rw [HE.out];exact a0.out.2.1
       have b1:=k8.out;refine (qzm u.base u.r.z u.a.z u.r.A u.r.c u.a.A u.a.c O xo.A xo.c wr b1.r.rd b1.a.rd (own_rdI (by rw [HV.out];exact k6.out) p2.out) b1.r.no C5 D5 jo).mono fun e C ⟨v,kn,he,hv,ha,f4⟩=>?_
       obtain ⟨y,rfl,rfl,hy,f1,f2⟩:=keOfG hv;exact ⟨y,he,ha,hy,FarN.newG jo f1 f2,f4⟩
      clear hu;go_wp2_with (go_at_call 108;refine B0.out.mono ?_;rintro _ wb ⟨y,rfl,c1,V,t4,t⟩;have i3:=hI c1;have e9:=hI V;have p4:=hI t4;have a9:=hI (F.out.next t);have e8:=hI (b0.out.next t);have l4:=hI (d6.out.next t);have A2:=hI (qeh k6.out t);clear c1 V t4 t k0 k1 k2;have k0:=a9.out.cells I 0 jo;have k1:=a9.out.cells I 1 jo;have k2:=a9.out.cells I 2 jo;rw [HU.out] at k0 k1 k2;simp only [qav,vac,vaf,vak] at k0 k1 k2;have q0:=a9.out.froz (k * 3);have q1:=a9.out.froz (k * 3 + 1);have q2:=a9.out.froz (k * 3 + 2));go_roundw
      case rel =>
       obtain ⟨t6,ho,D6⟩:=ov_over g7.out a6;have hy:=i3.out;rw [HE.out] at hy;have V:=D6 _ hy;have r6:=set_few a0.out.1 V;exact ⟨k + 1,L.setIfInBounds k y,by go_num,by omega,d3.out.put jo ho V r6.1 r6.2,hI (qya n5.out I p4.out),a9.out.put I e9.out p4.out.far,e8.out.put3 jo jo k y,l4.out.put3 jo jo k y,a9.out.oth A2.out jd (zbl wb K k y)⟩
      case measure=>simp [intOf];omega
     have g3:decide ((k:Int) < (kb.size:Int))=false:=vab jo;obtain rfl:k=r.k.z.size:=by omega
     have i7:=d3.out.chk a1.out a7.out d1.out HP.out b3.out;have r0:chkR (kR r K cK L)=true:=chk_kR a7.out d9 i7;have r2:FewC (kR r K cK L):=d3.out.few a1.out a7.out d1.out HP.out b3.out;have j4:=(qew a7.out).1;have b9:qey r.m.z (r.k.z.size:Int)=true:=by rw [g6.out];exact qex a7.out
     have m6:qas (qce L) (r.k.z.size:Int)=0:=qji (by rw [g6.out];exact j4) (by rw [d9]) (fun i T=>i7 i jo);have b6:(qce L).size=r.k.z.size:=(qbm L).trans d9;obtain ⟨a4,G⟩:∃ c,c=(encP (kR r K cK L)).toArray:=⟨_,rfl⟩
     obtain ⟨s8,D2⟩:=rowP G;have D:cs.setIfInBounds 9 (.slice (some ⟨K,0,none⟩) r.k.z.size cK)=a4:=by rw [a8.out,G,<-d9];rfl
     have d4:Hid (RefW w r K cK L (wr.setCell ⟨w.heap.size,9,none⟩ (.slice (some ⟨K,0,none⟩) r.k.z.size cK))):=by
      have R:=b0.out.set (vaa _) 9 (.slice (some ⟨K,0,none⟩) r.k.z.size cK);rw [D,G] at R;exact ⟨R,d6.out.far (g2:=w.heap.size) (vaa _) jo 9 _,qcm F.out.own jo 9 _,fun i T=>RdKE.apart (F.out.kk i T) (F.out.far i T) (fun j hj _=>vbf wr ⟨w.heap.size,9,none⟩ j _ jso) js,F.out.far⟩
     have s3:cs[9]?=some (.slice r.k.A r.k.z.size r.k.c):=by rw [a8.out];rfl
     have c9:=b0.out.at_ 9 s3;have f9:=b0.out.froz 9;go_upto_region 23 with fail
     obtain ⟨w7,t0⟩:∃ W,W=wr.setCell ⟨w.heap.size,9,none⟩ (.slice (some ⟨K,0,none⟩) r.k.z.size cK):=⟨_,rfl⟩
     rw [<-t0] at d4 |-
     clear D s3 c9 f9 t0 F b0 d6 k6;have n8:Hid (∀ W,Below w7.heap.size w7 W->Calls prog 109 #[.agg a4] W fun e C=>(∃ (A:Option Addr) (c:Nat),e=.returned (.slice A r.k.z.size c)/\RdI_R C.heap.size C A (qce L))/\Below W.heap.size W C):=fun W B=>by
      have:=qtf (kR r K cK L) W ((d4.out.next B).rd a2.out) r2
      rw [<-G] at this;refine this.mono fun e C ⟨⟨x,he,R,hr⟩,f4⟩=>?_
      have t2:x.z=qce L:=by rw [R];unfold qee;rw [vam r0];rfl
      refine ⟨⟨x.A,x.c,by rw [he];unfold RW.v;rw [t2,b6],t2 ▸ hr.rd⟩,f4⟩
     have p1:Hid (∀ W (A:Option Addr) (c:Nat),Below w7.heap.size w7 W->RdI_R W.heap.size W A (qce L)->Calls prog 38 #[.slice r.m.A r.m.z.size r.m.c,.int .i64 (r.k.z.size:Int),.int .i64 ((p:Int) + 1),.slice A r.k.z.size c] W fun e C=>(∃ y:RW (RW Int),e=.returned (.tuple #[.slice y.A y.z.size y.c,.int .i64 0])/\SepMM W.heap.size C r.m.z y/\qoh r.m.z p (qcd r.m.z[p]!.z (qce L)) y.z)/\Below W.heap.size W C):=fun W A c B hr=>by
      have J:=a2.out.below (qaa d4.out.x.b B)
      have:=qnu r.m.A r.m.c r.k.z.size p r.m.z A c (qce L) W ⟨J.m,J.mm⟩ b9 b3.out hr m6
      rwa [b6] at this
     have b0:=hI (G ▸ d4.out.x:BoxG w w.heap.size a4 35 w7);have d6:=hI d4.out.z;have q5:a4[10]?=some (.slice r.m.A r.m.z.size r.m.c):=by rw [G];rfl
     have h0:a4[0]?=some (.int .i64 (r.k.z.size:Int)):=by rw [G,g6.out];rfl
     have h2:a4[2]?=some (.int .i64 ((p:Int) + 1)):=by rw [G,<-HP.out];rfl
     have i9:=hI q5;have x0:=hI h0;have k4:=hI h2;have n1:=hI G;have F5:=hI i7;have g8:=hI b9;have n7:=hI m6;have j1:=hI d9;have j3:=hI (show w.heap.size + 2<=w7.heap.size by have:=d6.out.lt;omega);have q8:Below w7.heap.size w7 w7:=vag _ _;have KS:Hid (∀ W,Below w7.heap.size w7 W->Below w7.heap.size w7 W/\W.cell? ⟨w.heap.size,10,none⟩=some (.slice r.m.A r.m.z.size r.m.c)/\W.cell? ⟨w.heap.size,0,none⟩=some (.int .i64 (r.k.z.size:Int))/\W.cell? ⟨w.heap.size,2,none⟩=some (.int .i64 ((p:Int) + 1))/\qdd W w.heap.size 18=true/\rowAt W w.heap.size=a4):=fun W B=>by
      have R:=b0.out.next B;exact ⟨B,R.at_ 10 i9.out,R.at_ 0 x0.out,R.at_ 2 k4.out,R.box s8,R.rowAt⟩
     clear d9 i7 r0 r2 j4 b9 m6 b6 f3 G q5 h0 h2;go_region_held3 (fun W=>Below w7.heap.size w7 W/\W.cell? ⟨w.heap.size,10,none⟩=some (.slice r.m.A r.m.z.size r.m.c)/\W.cell? ⟨w.heap.size,0,none⟩=some (.int .i64 (r.k.z.size:Int))/\W.cell? ⟨w.heap.size,2,none⟩=some (.int .i64 ((p:Int) + 1))/\qdd W w.heap.size 18=true/\rowAt W w.heap.size=a4) (exact KS.out _ jy)
      (first
        | (go_at_call 109;((with_reducible refine (n8.out _ jy).mono ?_);rintro e z ⟨⟨A3,c3,rfl,s4⟩,t⟩;have d:Below w7.heap.size w7 z:=qaa jy t;have A7:=hI s4;clear s4 t))
        | (go_at_call 38;((with_reducible refine (p1.out _ A3 c3 d A7.out).mono ?_);rintro e wb ⟨⟨y,rfl,c1,V⟩,t⟩;have l8:Below w7.heap.size w7 wb:=qaa d t;have i3:=hI c1;have e9:=hI V;clear c1 V t)))
     have e8:=hI (b0.out.next l8);have l4:=hI (d6.out.next l8);have A6:=hI ((d4.out.next l8).q (fun i T=>n5.out i (jg j1.out)));have q4:=e8.out.at_ 10 i9.out;have B4:=e8.out.froz 10;have E7:=d.size;go_upto_region 26 with fail
     have a3:=hI (e8.out.set (vaa _) 10 (.slice y.A y.z.size y.c));have i4:=hI (l4.out.far (g2:=w.heap.size) (vaa _) jo 10 (.slice y.A y.z.size y.c));have o5:=hI ((A6.out.setMD i3.out (jg j3.out)).box (W2:=wb.setCell ⟨w.heap.size,10,none⟩ (.slice y.A y.z.size y.c)) (fun j hj=>vbf wb ⟨w.heap.size,10,none⟩ j _ jso) js);have p5:Hid (∀ W,Below (wb.setCell ⟨w.heap.size,10,none⟩ (.slice y.A y.z.size y.c)).heap.size (wb.setCell ⟨w.heap.size,10,none⟩ (.slice y.A y.z.size y.c)) W->RdMM W y):=fun W B=>i3.out W (fun i T=>(a2.out.below (qaa a3.out.b B)).mm i T) (fun j hj hl=>(B.block j (by simpa using hl)).trans (vbf wb ⟨w.heap.size,10,none⟩ j _ (by have:=j3.out;simp;omega))) (by simpa using B.size)
     obtain ⟨l6,f6⟩:∃ c,c=(encP { kR r K cK L with m:=y }).toArray:=⟨_,rfl⟩
     have D:a4.setIfInBounds 10 (.slice y.A y.z.size y.c)=l6:=by rw [n1.out,f6];rfl
     rw [D] at a3;obtain ⟨w5,s9⟩:∃ W,W=wb.setCell ⟨w.heap.size,10,none⟩ (.slice y.A y.z.size y.c):=⟨_,rfl⟩
     rw [<-s9] at a3 i4 o5 p5 |-
     have M:=hI f6;obtain ⟨lf,m5⟩:∃ l,qcl (colM y.z p)=l:=⟨_,rfl⟩
     have x8:=hI m5;have n4:Hid (∀ W,Below w5.heap.size w5 W->Calls prog 110 #[.slice y.A y.z.size y.c,.int .i64 (r.k.z.size:Int),.int .i64 ((p:Int) + 1)] W fun e C=>e=.returned (.int .i64 lf)/\Below W.heap.size W C):=fun W B =>
      m5 ▸ qtk y.A y.c r.k.z.size p y.z W (p5.out W B) (qti g8.out (qfn ((qci.1 g8.out).2.2 p (by have:=(qci.1 g8.out).2.1;have:=b3.out;omega)) n7.out) e9.out) b3.out
     have q4:=a3.out.at_ 10 (v:=.slice y.A y.z.size y.c) (by rw [M.out];rfl);have c0:=a3.out.at_ 0 (v:=.int .i64 (r.k.z.size:Int)) (by rw [M.out,g6.out];rfl);have c2:=a3.out.at_ 2 (v:=.int .i64 ((p:Int) + 1)) (by rw [M.out,<-HP.out];rfl);clear B4 D s9 f6 m5 n8 p1;go_upto_region 27 with (go_at_call 110;refine (n4.out _ (vag _ _)).mono ?_;rintro _ w6 ⟨rfl,q9⟩;have j7:=hI q9;clear q9)
     have e7:=hI (a3.out.next j7.out);have p7:=hI (i4.out.next j7.out);have o6:=hI (o5.out.next j7.out);clear q4 c0 c2 n4;have c3:=e7.out.at_ 3 (v:=.int .i64 r.clock) (by rw [M.out];rfl);go_upto_if 138 with fail
     go_cut [14] from 135 to 140 (fun v wx=>v=.int .i64 (min lf r.clock)/\wx=w6)
     case first =>
      by_cases hl:r.clock < lf
      .have m4:decide (r.clock < lf)=true:=vah hl
       have e:r.clock=min lf r.clock:=by omega
       have HE:=hI e;clear e;go_wp2;go_meet;exact ⟨congrArg (Value.int .i64) HE.out,rfl⟩
      have m4:decide (r.clock < lf)=false:=vab hl;have e:lf=min lf r.clock:=by omega
      have HE:=hI e;clear e;go_wp2;go_meet;exact ⟨congrArg (Value.int .i64) HE.out,rfl⟩
     case rest =>
      obtain ⟨rfl,rfl⟩:=hcut;obtain ⟨w6,rfl⟩:∃ W,W=wc:=⟨_,rfl⟩
      obtain ⟨mf,m7⟩:∃ m,min lf r.clock=m:=⟨_,rfl⟩
      rw [m7];obtain ⟨ff,r3⟩:∃ f,max r.floor mf=f:=⟨_,rfl⟩
      have x9:=hI m7;have k3:=hI r3;obtain ⟨i5,c7⟩:∃ c,c=(encP { kR r K cK L with m:=y,floor:=ff }).toArray:=⟨_,rfl⟩
      obtain ⟨F4,D1⟩:=rowP c7;have e4:=hI c7;have D:l6.setIfInBounds 5 (.int .i64 ff)=i5:=by rw [M.out,c7];rfl
      have B1:=hI D;have c5:=e7.out.at_ 5 (v:=.int .i64 r.floor) (by rw [M.out];rfl);have f5:=e7.out.froz 5;clear c3 m7 r3 c7 D;go_upto_if 144 with fail
      go_cut [] from 141 to 146 (fun wx=>Hid (BoxG w w.heap.size i5 35 wx)/\Hid (BoxG w (w.heap.size + 1) qby 35 wx)/\Hid (RdQ w wx r { kR r K cK L with m:=y,floor:=ff }))
      case first =>
       by_cases hl:r.floor < mf
       .have m4:decide (r.floor < mf)=true:=vah hl
        have v7:Hid (mf=ff):=by show _=_;have:=k3.out;omega
        go_wp2;go_meet;have m2:=v7.out;rw [m2];refine ⟨?_,p7.out.far (g2:=w.heap.size) (vaa _) jo 5 _,(o6.out.setF ff).box (W2:=w6.setCell ⟨w.heap.size,5,none⟩ (.int .i64 ff)) (fun j hj=>vbf w6 ⟨w.heap.size,5,none⟩ j _ jso) js⟩;have h7:=e7.out.set (vaa _) 5 (.int .i64 ff)
        rwa [B1.out] at h7
       have m4:decide (r.floor < mf)=false:=vab hl;have m2:ff=r.floor:=by have:=k3.out;omega
       go_wp2;go_meet;refine ⟨?_,p7,o6.out.setF ff⟩;have h7:=e7.out;have e:l6=i5:=by rw [M.out,e4.out,m2];rfl
       rwa [e] at h7
      case rest =>
       obtain ⟨h9,p8,A4⟩:=hcut;obtain ⟨w8,rfl⟩:∃ W,W=wc:=⟨_,rfl⟩
       have q3:=p8.out.lt;have c8:=h9.out.at_ 8 (v:=.slice r.o.A r.o.z.size r.o.c) (by rw [e4.out];rfl);have c5:=h9.out.at_ 5 (v:=.int .i64 ff) (by rw [e4.out];rfl);have p0:Hid (Calls prog 111 #[.slice r.o.A r.o.z.size r.o.c,.int .i64 ff] w8 fun e C=>∃ (Ao:Option Addr) (co:Nat) (zo:Array (Int×Int)),e=.returned (.slice Ao zo.size co)/\zo=qnl r.o.z ff/\RdN qae 2 C ⟨Ao,co,zo⟩/\(∀ g n0,Ao=some ⟨g,n0,none⟩->w8.heap.size<=g)/\Below w8.heap.size w8 C) :=
        (qtl r.o.A r.o.c r.o.z ff w8 (a2.out.below h9.out.b).o.rd (jg d1.out.o)).mono fun e C ⟨⟨⟨Ao,co,zo⟩,h1,h2,h3,h4⟩,h5⟩=>⟨Ao,co,zo,h1,h2,h3,h4,h5⟩
       go_wp2_with fail;refine p0.out.mono ?_;rintro _ w9 ⟨Ao,co,zo,rfl,t5,s5,r4,i6⟩;have k9:=hI (h9.out.next i6);have B2:=hI (p8.out.next i6);have A5:=hI ((A4.out.next i6).setO s5 (fun g n0 e=>vax jo (r4 g n0 e)));have B3:=hI t5;have c8:=k9.out.at_ 8 (v:=.slice r.o.A r.o.z.size r.o.c) (by rw [e4.out];rfl);have f8:=k9.out.froz 8;have i1:=hI (k9.out.set (vaa _) 8 (.slice Ao zo.size co));have p9:=hI (B2.out.far (g2:=w.heap.size) (vaa _) jo 8 (.slice Ao zo.size co));obtain ⟨l5,c6⟩:∃ c,c=(encP { kR r K cK L with m:=y,floor:=ff,o:=⟨Ao,co,zo⟩ }).toArray:=⟨_,rfl⟩
       have D:i5.setIfInBounds 8 (.slice Ao zo.size co)=l5:=by rw [e4.out,c6];rfl
       rw [D] at i1;obtain ⟨j5,D0⟩:=rowP c6;have v3:=hI c6;have x1:=i1.out.box j5;have x2:=i1.out.rowAt;have x3:=p9.out.box (n:=18) rfl;clear c6 D i6 s5 r4 t5 c5 p0 n7 g8;go_wp2;refine vau (qch rfl rfl (vbz _ _ _ _ _ _ p9.out.row) j5) rfl ?_;have b4:Below w.heap.size w ((w9.setCell ⟨w.heap.size,8,none⟩ (.slice Ao zo.size co)).setRow (w.heap.size + 1) l5):=i1.out.b.trans ⟨rfl,rfl,rfl,by simp,fun j hj=>vbg _ _ j _ jo⟩;have D4:=A5.out.sep (W2:=(w9.setCell ⟨w.heap.size,8,none⟩ (.slice Ao zo.size co)).setRow (w.heap.size + 1) l5) js (fun j hj hl=>(vbg _ _ j _ jo).trans (vbf w9 ⟨w.heap.size,8,none⟩ j _ jso));refine ⟨⟨_,by rw [<-v3.out],⟨rfl,j1.out,fun i T=>?_,e9.out.1,fun i T=>?_,?_,B3.out⟩,D4⟩,b4⟩
       .obtain ⟨⟨t6,h1,h2⟩,_⟩:=d3.out.lo i T (by rw [a1.out.sz];exact T)
        refine ⟨kb[i]!.kn,t6,?_,h1,h2⟩;by_cases U:i=p
        .rw [vam (by rw [HP.out,U]),U]
         exact a1.out.me
        rw [vao (by rw [HP.out];omega),a1.out.oth i T U]
       .rw [e9.out.2 i T]
        by_cases U:i=p
        .rw [vam U,vam (by rw [HP.out,U]),U];rfl
        rw [vao U,vao (by rw [HP.out];omega)]
       rw [show r.self.toNat - 1=p by rw [HP.out];omega];show ff=max r.floor (min (qcl (colM y.z p)) r.clock);rw [x8.out,x9.out,k3.out]
 exact m3 _ a5
end
theorem qxq {d:Array Int} {n:Int} (h:qas d n≠0):qas d n=2:=by
 unfold qas at h |-
 split
 .rfl
 rename_i a;rw [vao a] at h;exact absurd rfl h
theorem qqn (A:Option Addr) (c n p:Nat) (m:Array (RW Int)) (j:Option Addr) (c2:Nat) (d2:Array Int) (w:World) (h:RdMM w ⟨A,c,m⟩) (s:qey m n=true) (E:p < n) (v:RdI_R w.heap.size w j d2) (D:d2.size<=1000000) (x:qas d2 n≠0) :
 Calls prog 31 #[.slice A m.size c,.int .i64 n,.int .i64 ((p:Int) + 1),.slice j d2.size c2] w fun e b=>e=.returned (.tuple #[.slice none 0 0,.int .i64 2])/\Below w.heap.size w b:=by
 obtain ⟨C,t,a⟩:=qci.1 s;have u:m.size=n:=by omega
 have y:∀ i,i < m.size->m[i]!.z.size=n:=fun i r=>by have:=(qay.1 (a i r)).2.1;omega
 have o:Hid (Calls prog 77 #[.slice A m.size c,.int .i64 n] w fun e b=>e=.returned (.int .i64 0)/\Below w.heap.size w b):=by
  have:=qha A c m n w h.1.rd h.2 jo (fun i r=>by rw [y i r];omega)
  have z:qea m n=0:=by unfold qea;rw [vam s]
  rwa [z] at this
 have q:Hid (∀ W,Below w.heap.size w W->Calls prog 79 #[.slice j d2.size c2,.int .i64 n] W fun e b=>e=.returned (.int .i64 2)/\Below W.heap.size W b):=fun W B=>by
  have:=qfs j c2 d2 n _ W (v.below B) jo
  rwa [qxq x] at this
 have k:Hid (∀ W,Calls prog 78 #[.int .i64 ((p:Int) + 1),.int .i64 n] W fun e b=>e=.returned (.bool true)/\W=b):=fun W=>by
  have:=qig ((p:Int) + 1) n W
  rwa [vah (by omega:1<=(p:Int) + 1/\(p:Int) + 1<=(n:Int))] at this
 clear h s v D x t a u y;go_in
 go_wp2_with (first
  | (go_at_call 77;refine o.out.mono ?_;rintro _ F ⟨rfl,f⟩;have d:=hI f;clear f)
  | (go_at_call 78;refine (k.out _).mono ?_;rintro _ _ ⟨rfl,rfl⟩)
  | (go_at_call 79;refine (q.out _ d.out).mono ?_;rintro _ G ⟨rfl,g⟩;have l:=hI (qaa d.out g);clear g))
 go_ret2;exact ⟨rfl,l.out⟩
theorem qog (A:Option Addr) (c n p:Nat) (m:Array (RW Int)) (g:Option Addr) (c2:Nat) (d2:Array Int) (w:World) (h:RdMM w ⟨A,c,m⟩) (o:qey m n=true) (D:p < n) (s:RdI_R w.heap.size w g d2) (z:d2.size<=1000000) (t:qas d2 n≠0) :
 Calls prog 38 #[.slice A m.size c,.int .i64 n,.int .i64 ((p:Int) + 1),.slice g d2.size c2] w fun e f=>e=.returned (.tuple #[.slice none 0 0,.int .i64 2])/\Below w.heap.size w f:=by
 obtain ⟨y,q,a⟩:=qci.1 o;have r:m.size=n:=by omega
 have u:∀ i,i < m.size->m[i]!.z.size=n:=fun i l=>by have:=(qay.1 (a i l)).2.1;omega
 have j:Hid (Calls prog 100 #[.slice A m.size c,.int .i64 n] w fun e f=>e=.returned (.int .i64 0)/\Below w.heap.size w f):=by
  have:=qpz A c m n w h.1.rd h.2 jo (fun i l=>by rw [u i l];omega)
  have v:qea m n=0:=by unfold qea;rw [vam o]
  rwa [v] at this
 have k:Hid (∀ W,Below w.heap.size w W->Calls prog 101 #[.slice g d2.size c2,.int .i64 n] W fun e f=>e=.returned (.int .i64 2)/\W=f):=fun W x=>by
  have:=qel g c2 d2 n _ W (s.below x) jo
  rwa [qxq t] at this
 have B:decide ((p:Int) + 1 < 1)=false:=vab jo;have C:decide ((n:Int) < (p:Int) + 1)=false:=vab jo;clear h o s z t q a r u;go_in
 go_wp2_with (first
  | (go_at_call 100;refine j.out.mono ?_;rintro _ E ⟨rfl,d⟩;have b:=hI d;clear d)
  | (go_at_call 101;refine (k.out _ b.out).mono ?_;rintro _ _ ⟨rfl,rfl⟩))
 go_ret2;exact ⟨rfl,b.out⟩
def NewK (B:Nat) (x:KE):Prop:=(0 < x.r.z.size->∀ g off,x.r.A=some ⟨g,off,none⟩->B<=g)/\(0 < x.a.z.size->∀ g off,x.a.A=some ⟨g,off,none⟩->B<=g)
theorem NewK.mono {B c:Nat} {x:KE} (h:NewK B x) (d:c<=B):NewK c x:=⟨fun b g a e=>vax d (h.1 b g a e),fun b g a e=>vax d (h.2 b g a e)⟩
theorem NewK.rd {B:Nat} {W W':World} {x:KE} (h:NewK B x) (a:RdKE W x) (b:∀ j,B<=j->j < W.heap.size->W'.heap[j]?=W.heap[j]?) (c:W.heap.size<=W'.heap.size):RdKE W' x :=
 ⟨⟨RdK.apartN a.r.rd h.1 b c,a.r.no⟩,⟨RdK.apartN a.a.rd h.2 b c,a.a.no⟩⟩
theorem OwnMM.sep {B a:Nat} {W W':World} {m:Array (RW Int)} {y:RW (RW Int)} (h:OwnMM a W y) (f:B<=a) (g:W.heap.size<=W'.heap.size) (e:∀ j,a<=j->j < W.heap.size->W'.heap[j]?=W.heap[j]?):SepMM B W' m y:=fun V _ d i =>
 h V (fun j b c=>(d j jo jo).trans (e j b c)) jo
theorem SepMM.next {B a:Nat} {W W':World} {m:Array (RW Int)} {y:RW (RW Int)} (h:SepMM a W m y) (g:B<=a) (i:W.heap.size<=W'.heap.size) (e:∀ j,a<=j->j < W.heap.size->W'.heap[j]?=W.heap[j]?):SepMM B W' m y:=fun V f d k =>
 h V f (fun j b c=>(d j jo jo).trans (e j b c)) jo
theorem OwnJ.next {B a:Nat} {W W':World} {x:RW Int} (h:OwnJ a W x) (f:B<=a) (g:W.heap.size<=W'.heap.size) (e:∀ j,a<=j->j < W.heap.size->W'.heap[j]?=W.heap[j]?):OwnJ B W' x:=fun V d i =>
 h V (fun j b c=>(d j jo jo).trans (e j b c)) jo
def rpP (r:RP) (p K cK:Nat) (x:KE) (y:RW (RW Int)) (f:RW Int):RP:={ r with k:=⟨some ⟨K,0,none⟩,cK,r.k.z.setIfInBounds p x⟩,m:=y,fr:=f }
theorem qxr {r:RP} {W2:World} {K cK p B:Nat} {x:KE} {y:RW (RW Int)} {f:RW Int} (n:W2.ownsRow B 66 3 (.slice (some ⟨K,0,none⟩) r.k.z.size cK) r.k.z.size (flatK qav 3 (r.k.z.setIfInBounds p x)).toList)
 (u:RdKE W2 x) (t:NewK B x) (v:SepMM B W2 r.m.z y) (o:OwnJ B W2 f):SepR r B W2 (rpP r p K cK x y f):=fun W a g k=>by
 have s:=qdz n (vaa _) g;have d:(r.k.z.setIfInBounds p x).size=r.k.z.size:=by simp
 have h:W.ownsRow B 66 3 (.slice (some ⟨K,0,none⟩) r.k.z.size cK) (r.k.z.setIfInBounds p x).size (flatK qav 3 (r.k.z.setIfInBounds p x)).toList:=by rw [d];exact s
 have m:=v W a.mm g k;refine ⟨a.e,a.o,?_,fun i q=>?_,m.1,m.2,o W g k,a.d,a.dd,a.it,a.ss⟩
 .obtain ⟨z,e,A,j⟩:=qek h
  obtain ⟨D,E,C⟩:=z;have l:C=r.k.z.setIfInBounds p x:=A;subst l;unfold RW.v at e;injection e with q1 q2 q3
  subst q1 q3;exact j
 have b:i < (r.k.z.setIfInBounds p x).size:=q;rw [d] at b;show RdKE W (r.k.z.setIfInBounds p x)[i]!;by_cases c:i=p
 .subst c
  rw [getElem!_set_same _ i x b];exact t.rd u g k
 rw [show (r.k.z.setIfInBounds p x)[i]! = r.k.z[i]! by rw [vbx,vbx,vbb,vao (Ne.symm c)]];exact a.kk i b
theorem prom_of {r:RP} {m:PM} {p K cK:Nat} {x:KE} {y:RW (RW Int)} {f:RW Int} (e:OkPr r m p) (k:AddR r.k.z[p]!.kn m.lo m.hi m.ats x.kn) (d:x.r.z.size<=r.k.z[p]!.r.z.size + r.k.z[p]!.a.z.size + m.ats.size + 1) (g:qoh r.m.z p (qcd r.m.z[p]!.z m.mks) y.z) (h:f.z=qec r.fr.z p m.dn):PromR r m (rpP r p K cK x y f):=by
 have b:=e.fr;have j:=e.pk;refine ⟨rfl,by show (r.k.z.setIfInBounds p x).size=_;simp,fun i c=>?_,g.1,fun i c=>?_,by show f.z=_;rw [h,show m.fr.toNat - 1=p by omega]⟩
 .show if (i:Int) + 1=m.fr then AddR r.k.z[i]!.kn m.lo m.hi m.ats (r.k.z.setIfInBounds p x)[i]!.kn/\(r.k.z.setIfInBounds p x)[i]!.r.z.size<=r.k.z[i]!.r.z.size + r.k.z[i]!.a.z.size + m.ats.size + 1 else (r.k.z.setIfInBounds p x)[i]!.kn=r.k.z[i]!.kn
  by_cases a:i=p
  .subst a
   rw [vam b.symm,getElem!_set_same _ i x c];exact ⟨k,d⟩
  rw [vao jo,show (r.k.z.setIfInBounds p x)[i]! = r.k.z[i]! by rw [vbx,vbx,vbb,vao (Ne.symm a)]]
 show y.z[i]!.z=_;rw [g.2 i c];by_cases a:i=p
 .subst a
  rw [vam rfl,vam b.symm]
 rw [vao a,vao jo]
structure HeP (r:RP) (m:PM) (p n:Nat):Prop where
 c:chkR r=true
 fr:m.fr=(p:Int) + 1
 nn:r.n=(n:Int)
 pn:p < n
 ns:m.fr≠r.self
 ats:m.ats.size<=200
 mks:m.mks.size<=1000000
 dn:0<=m.dn/\m.dn<=1000000
theorem heP {r:RP} {m:PM} {w:World} (h:qep r m=true) (e:m.k=10) (f:RdM w m):∃ p n,HeP r m p n:=by
 unfold qep at h;simp only [vav,vap] at h;obtain ⟨⟨b,c⟩,k,d,_,_⟩:=h;obtain ⟨a,i,j⟩:=chkM_10 c e;unfold proB at a;simp only [vav,vap] at a;have g:=qew b;exact ⟨m.fr.toNat - 1,r.n.toNat,b,by omega,by omega,by omega,d,a.1.2.2,f.sm,by omega⟩
theorem HeP.ok {r:RP} {m:PM} {p n:Nat} (h:HeP r m p n) (a:qep r m=true) (b:m.k=10):okPr r m=(addB r.k.z[p]!.kn m.lo m.hi m.ats && decide (qas m.mks r.n=0)):=by
 unfold okPr;rw [vah b,a,show m.fr.toNat - 1=p by have:=h.fr;omega];rfl
theorem HeP.okp {r:RP} {m:PM} {p n:Nat} (h:HeP r m p n) (a:addB r.k.z[p]!.kn m.lo m.hi m.ats=true) (b:qas m.mks r.n=0):OkPr r m p :=
 ⟨h.c,h.fr,by have:=qgf h.c;have:=h.nn;have:=h.pn;omega,h.ns,qkk.1 a,h.ats,b,h.dn⟩
structure AddO (r:RP) (m:PM) (p B:Nat) (x:KE) (w':World):Prop where
 a:AddR r.k.z[p]!.kn m.lo m.hi m.ats x.kn
 s:x.r.z.size<=r.k.z[p]!.r.z.size + r.k.z[p]!.a.z.size + m.ats.size + 1
 n:NewK B x
 rd:RdKE w' x
theorem pAddX {r:RP} {m:PM} {p n:Nat} {w:World} (h:RdP w r) (t:FewP r) (k:RdM w m) (c:HeP r m p n) :
 Calls prog 30 #[.agg (qav r.k.z[p]!).toArray,.int .i64 m.lo,.int .i64 m.hi,.slice m.aA m.ats.size m.aC] w fun e d=>(∃ x:KE,e=.returned (.tuple #[.agg (qav x).toArray,.int .i64 (if addB r.k.z[p]!.kn m.lo m.hi m.ats then 0 else 2)])/\(addB r.k.z[p]!.kn m.lo m.hi m.ats=true->AddO r m p w.heap.size x d))/\Below w.heap.size w d:=by
 have b:p < r.k.z.size:=by have:=qgf c.c;have:=c.nn;have:=c.pn;omega
 have a:=h.kk p b;have A:=t.kk' b;have B:=c.ats;cases j:addB r.k.z[p]!.kn m.lo m.hi m.ats
 .refine (kAdd_bad r.k.z[p]!.base r.k.z[p]!.r.z r.k.z[p]!.a.z r.k.z[p]!.r.A r.k.z[p]!.r.c r.k.z[p]!.a.A r.k.z[p]!.a.c m.lo m.hi m.ats m.aA m.aC w a.r.rd a.a.rd k.ra jo j).mono ?_
  rintro e d ⟨rfl,q⟩;exact ⟨⟨⟨0,⟨none,0,#[]⟩,⟨none,0,#[]⟩⟩,rfl,fun h=>by cases h⟩,q⟩
 have f:=qkk.1 j;refine (qwo r.k.z[p]!.base r.k.z[p]!.r.z r.k.z[p]!.a.z r.k.z[p]!.r.A r.k.z[p]!.r.c r.k.z[p]!.a.A r.k.z[p]!.a.c m.lo m.hi m.ats m.aA m.aC w a.r.rd a.a.rd k.ra f jo jo jo).mono fun e d ⟨v,C,s,y,u,i,g⟩=>?_
 obtain ⟨x,rfl,rfl,z,l,o⟩:=keOfF y;exact ⟨⟨x,s,fun _=>⟨u,i,⟨fun _=>l,fun _=>o⟩,z⟩⟩,g⟩
theorem pTellX {r:RP} {m:PM} {p n:Nat} {w:World} (h:RdP w r) (i:RdM w m) (a:HeP r m p n) :
 Calls prog 31 #[.slice r.m.A r.m.z.size r.m.c,.int .i64 n,.int .i64 ((p:Int) + 1),.slice m.mA m.mks.size m.mC] w fun e c=>(∃ y:RW (RW Int),e=.returned (.tuple #[.slice y.A y.z.size y.c,.int .i64 (if qas m.mks r.n=0 then 0 else 2)])/\(qas m.mks r.n=0->SepMM w.heap.size c r.m.z y/\qoh r.m.z p (qcd r.m.z[p]!.z m.mks) y.z))/\Below w.heap.size w c:=by
 have d:=qex a.c;rw [a.nn] at d |-
 by_cases b:qas m.mks (n:Int)=0
 .rw [vam b]
  refine (qpc r.m.A r.m.c n p r.m.z m.mA m.mC m.mks w ⟨h.m,h.mm⟩ d a.pn i.rm b).mono fun e c ⟨⟨y,g,k,j⟩,f⟩=>?_
  exact ⟨⟨y,g,fun _=>⟨k.sep (vaa _) (vaa _) (fun _ _ _=>rfl),j⟩⟩,f⟩
 rw [vao b];refine (qqn r.m.A r.m.c n p r.m.z m.mA m.mC m.mks w ⟨h.m,h.mm⟩ d a.pn i.rm a.mks b).mono fun e c ⟨g,f⟩=>?_
 exact ⟨⟨⟨none,0,#[]⟩,g,fun h=>absurd h b⟩,f⟩
theorem dAddX {r:RP} {m:PM} {p n:Nat} {w:World} (h:RdP w r) (z:FewP r) (o:RdM w m) (d:HeP r m p n) :
 Calls prog 37 #[.agg (qav r.k.z[p]!).toArray,.int .i64 m.lo,.int .i64 m.hi,.slice m.aA m.ats.size m.aC] w fun e f=>(∃ x:KE,e=.returned (.tuple #[.agg (qav x).toArray,.int .i64 (if addB r.k.z[p]!.kn m.lo m.hi m.ats then 0 else 2)])/\(addB r.k.z[p]!.kn m.lo m.hi m.ats=true->AddO r m p w.heap.size x f))/\Below w.heap.size w f:=by
 have c:p < r.k.z.size:=by have:=qgf d.c;have:=d.nn;have:=d.pn;omega
 have a:=h.kk p c;have D:=z.kk' c;have E:=d.ats;cases k:addB r.k.z[p]!.kn m.lo m.hi m.ats
 .refine (rAdd_bad r.k.z[p]!.base r.k.z[p]!.r.z r.k.z[p]!.a.z r.k.z[p]!.r.A r.k.z[p]!.r.c r.k.z[p]!.a.A r.k.z[p]!.a.c m.lo m.hi m.ats m.aA m.aC w a.r.rd a.a.rd o.ra jo k).mono ?_
  rintro e f ⟨rfl,u⟩;exact ⟨⟨⟨0,⟨none,0,#[]⟩,⟨none,0,#[]⟩⟩,rfl,fun h=>by cases h⟩,u⟩
 have b:=qkk.1 k;refine (rAdd_ok r.k.z[p]!.base r.k.z[p]!.r.z r.k.z[p]!.a.z r.k.z[p]!.r.A r.k.z[p]!.r.c r.k.z[p]!.a.A r.k.z[p]!.a.c m.lo m.hi m.ats m.aA m.aC w a.r.rd a.a.rd o.ra a.r.no a.a.no b jo jo jo).mono fun e f ⟨v,F,y,B,q,⟨l,A,i⟩,g⟩=>?_
 obtain ⟨x,rfl,rfl,C,s,t⟩:=keOfG B;have j:=add_sz b q (by show r.k.z[p]!.a.z.size + m.ats.size<=400;omega) A;exact ⟨⟨x,y,fun _=>⟨q,vax j i,⟨s,fun _=>t⟩,C⟩⟩,g⟩
theorem dTellX {r:RP} {m:PM} {p n:Nat} {w:World} (h:RdP w r) (i:RdM w m) (a:HeP r m p n) :
 Calls prog 38 #[.slice r.m.A r.m.z.size r.m.c,.int .i64 n,.int .i64 ((p:Int) + 1),.slice m.mA m.mks.size m.mC] w fun e c=>(∃ y:RW (RW Int),e=.returned (.tuple #[.slice y.A y.z.size y.c,.int .i64 (if qas m.mks r.n=0 then 0 else 2)])/\(qas m.mks r.n=0->SepMM w.heap.size c r.m.z y/\qoh r.m.z p (qcd r.m.z[p]!.z m.mks) y.z))/\Below w.heap.size w c:=by
 have d:=qex a.c;rw [a.nn] at d |-
 by_cases b:qas m.mks (n:Int)=0
 .rw [vam b]
  refine (qnu r.m.A r.m.c n p r.m.z m.mA m.mC m.mks w ⟨h.m,h.mm⟩ d a.pn i.rm b).mono fun e c ⟨⟨y,g,k,j⟩,f⟩=>?_
  exact ⟨⟨y,g,fun _=>⟨k,j⟩⟩,f⟩
 rw [vao b];refine (qog r.m.A r.m.c n p r.m.z m.mA m.mC m.mks w ⟨h.m,h.mm⟩ d a.pn i.rm a.mks b).mono fun e c ⟨g,f⟩=>?_
 exact ⟨⟨⟨none,0,#[]⟩,g,fun h=>absurd h b⟩,f⟩
