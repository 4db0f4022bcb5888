/- Texts that the law leans on. -/
import Derived.Test.YtdcfffhoajmafaaGreatQRfB
set_option maxRecDepth 100000
set_option maxHeartbeats 16000000
namespace Go.Proofs.YtdcfffhoajmafaaGreat
open Go.RowKit Go.Sort Go.Lib Go.Proofs.Tryz
attribute [local go_sem ↓] qap qan qbe
attribute [local go_sem] qaw qao qal qbb qbv qbp
structure BoxO (w:World) (cs cm cz:Array Value) (W:World):Prop where
 r:BoxG w w.heap.size cs 35 W
 m:BoxG w (w.heap.size + 1) cm 37 W
 z:BoxG w (w.heap.size + 1 + 1) cz 35 W
theorem BoxO.init (w:World) (cs a b:Array Value):BoxO w cs a b (((w.alloc (.cells cs 35)).alloc (.cells a 37)).alloc (.cells b 35)):=⟨BoxG.t1 w _ _ _ _ _ _,BoxG.t2 w _ _ _ _ _ _,BoxG.t3 w _ _ _ _ _ _⟩
theorem BoxO.next {w W W':World} {cs b c:Array Value} (h:BoxO w cs b c W) (a:Below W.heap.size W W'):BoxO w cs b c W':=⟨h.r.next a,h.m.next a,h.z.next a⟩
theorem AddO.at_ {r:RP} {m:PM} {p B a:Nat} {x:KE} {W W':World} (h:AddO r m p B x W) (b:a<=B) (c:RdKE W' x):AddO r m p a x W':=⟨h.a,h.s,h.n.mono b,c⟩
theorem qwf {r:RP} {c:Array Value} {v:Value} (h:c=(encP r).toArray) (a:v=.slice none 0 0):(Ending.returned (.tuple #[.agg c,v]))=.returned (.tuple #[.agg (encP r).toArray,.slice none 0 0]):=by rw [h,a]
theorem BoxO.setR {w W:World} {cs a b:Array Value} (h:BoxO w cs a b W) (j:Nat) (v:Value):BoxO w (cs.setIfInBounds j v) a b (W.setCell ⟨w.heap.size,j,none⟩ v):=⟨h.r.set (vaa _) j v,h.m.far (g2:=w.heap.size) (vaa _) jo j v,h.z.far (g2:=w.heap.size) (vaa _) jo j v⟩
theorem BoxO.put3 {w W:World} {cs a b:Array Value} (h:BoxO w cs a b W) {K:Nat} (c:w.heap.size + 1 + 1 + 1<=K) (p:Nat) (x:KE):BoxO w cs a b (Go.Proofs.YtdcfffhoajmafaaGreat.put3 W K p x):=⟨h.r.put3 jo jo p x,h.m.put3 jo jo p x,h.z.put3 jo jo p x⟩
theorem qwg {W:World} {B K n cK p:Nat} {a:Array KE} (h:W.ownsRow B 66 3 (.slice (some ⟨K,0,none⟩) n cK) n (flatK qav 3 a).toList) (hi:p < a.size) (x:KE):(put3 W K p x).ownsRow B 66 3 (.slice (some ⟨K,0,none⟩) n cK) n (flatK qav 3 (a.setIfInBounds p x)).toList:=by
 rw [qns a p x hi];exact (((h.stored (p * 3) _).1.stored (p * 3 + 1) _).1.stored (p * 3 + 2) _).1
theorem qon (W:World) (K p:Nat) (x:KE) {j:Nat} (h:j≠K):(put3 W K p x).heap[j]?=W.heap[j]?:=by
 unfold put3;rw [vbf _ ⟨K,_,none⟩ j _ h,vbf _ ⟨K,_,none⟩ j _ h,vbf _ ⟨K,_,none⟩ j _ h]
theorem qgn {W:World} {B K n cK:Nat} {l:List Value} (h:W.ownsRow B 66 3 (.slice (some ⟨K,0,none⟩) n cK) n l) {j:Nat} (a:j < n * 3):∃ v,W.cell? ⟨K,j,none⟩=some v:=by
 have:=h.cellAt j a
 rw [this];have b:l.length=n * 3:=h.1;exact ⟨_,vbl jo⟩
def qty (r:RP) (m:PM) (w:World) (e:Ending) (w':World):Prop:=(∃ s:RP,e=.returned (.tuple #[.agg (encP s).toArray,.slice none 0 0])/\OnPrR r m s/\SepR r w.heap.size w' s)/\Below w.heap.size w w'
theorem qga {r:RP} {m:PM} {w W:World} {c:Array Value} {v:Value} {g:Nat} (b:c=(encP r).toArray) (d:v=.slice none 0 0) (h:okPr r m=false) (a:Below w.heap.size w W) (e:w.heap.size<=g):qty r m w (.returned (.tuple #[.agg c,v])) (W.setRow g c) :=
 ⟨⟨r,qwf b d,Or.inl ⟨h,rfl⟩,SepR.self _ _ _⟩,a.trans ⟨rfl,rfl,rfl,by simp,fun j f=>vbg _ _ j _ jo⟩⟩
theorem qrf {r a b s:RP} {m:PM} {w d e f:World} {c:Array Value} {v:Value} {g:Nat} (y:c=(encP s).toArray) (C:v=.slice none 0 0) (h:okPr r m=true) (p:PromR r m a) (q:RefR a b) (t:DropR b s)
 (s1:SepR r (g + 1) d a) (F:SepR a d.heap.size e b) (G:SepR b e.heap.size f s) (o:Below w.heap.size w d) (k:Below d.heap.size d e) (l:Below e.heap.size e f) (H:w.heap.size<=g) (z:g < d.heap.size):qty r m w (.returned (.tuple #[.agg c,v])) (f.setRow g c):=by
 have B:=k.size;have x:Below w.heap.size w f:=qaa (qaa o k) l;have i:SepR r (g + 1) f s:=(s1.trans F k jo).trans G l jo;refine ⟨⟨s,qwf y C,Or.inr ⟨h,a,b,p,q,t⟩,fun n A u D=>i n A (fun j J E=>(u j jo (by simpa using E)).trans (vbg _ _ j _ jo)) (by simpa using D)⟩,x.trans ⟨rfl,rfl,rfl,by simp,fun j I=>vbg _ _ j _ jo⟩⟩
theorem qrg (r:RP) (m:PM) (w:World) (h:RdP w r) (hm:RdM w m) (hf:FewP r) :
 Calls prog 9 #[.agg (encP r).toArray,.agg (msgC m)] w fun e C=>qty r m w e C:=by
 have a4:=hI h;have h3:=hI hm;have d7:=hI hf;obtain ⟨cs,o⟩:∃ cs,cs=(encP r).toArray:=⟨_,rfl⟩
 obtain ⟨F,n7⟩:=rowP o;have D:=hI o;obtain ⟨M,l⟩:∃ M,M=msgC m:=⟨_,rfl⟩
 have j5:M.size=14:=by rw [l];rfl
 have G:=hI l;have f4:∀ x y:Array Value,cs=x->M=y->Calls prog 9 #[.agg x,.agg y] w fun e C=>qty r m w e C:=by
  rintro _ _ rfl rfl;simp only [encP] at o;simp only [msgC] at l;by_cases hk:m.k=10
  .have HH:Hid (∀ W,Below w.heap.size w W->Calls prog 29 #[.agg cs,.agg M] W fun e C=>e=.returned (.bool (qep r m))/\Below W.heap.size W C):=fun W k=>by
    rw [D.out,G.out];exact qrj r m W (h.below k) (hm.next k) hf.c hk
   have a3:Hid (M[0]?=some (.int .i64 10)):=by show _=_;rw [G.out,<-hk];rfl
   by_cases hh:qep r m=true
   .rw [hh] at HH
    obtain ⟨p,n,hp⟩:=heP hh hk hm;have HP:=hI hp;have j3:p < r.k.z.size:=by have:=qgf hp.c;have:=hp.nn;have:=hp.pn;omega
    have j0:=hf.c.k;obtain ⟨S,ok,hA,i5,fk⟩:=h.k.rd.at_ (i:=p) j3;have I:Hid (okPr r m=(addB r.k.z[p]!.kn m.lo m.hi m.ats && decide (qas m.mks r.n=0))):=hp.ok hh hk;have d0:=hI (fun ha N=>hp.okp ha N);have o3:IntKind.i64.wrap (p:Int)=(p:Int):=vcu _ jo;have o2:(p:Int) < (r.k.z.size:Int):=by omega
    have e4:Hid (cs[9]?=some (.slice (some ⟨S,ok,none⟩) r.k.z.size r.k.c)):=by show _=_;rw [D.out,<-hA];rfl
    have g9:Hid (cs[0]?=some (.int .i64 (n:Int))):=by show _=_;rw [D.out,<-hp.nn];rfl
    have c2:Hid (cs[10]?=some (.slice r.m.A r.m.z.size r.m.c)):=by show _=_;rw [D.out];rfl
    have c3:Hid (cs[11]?=some (.slice r.fr.A r.fr.z.size r.fr.c)):=by show _=_;rw [D.out];rfl
    have b1:Hid (M[1]?=some (.int .i64 ((p:Int) + 1))):=by show _=_;rw [G.out,<-hp.fr];rfl
    have l6:Hid (M[9]?=some (.int .i64 m.lo)):=by show _=_;rw [G.out];rfl
    have g4:Hid (M[10]?=some (.int .i64 m.hi)):=by show _=_;rw [G.out];rfl
    have g5:Hid (M[11]?=some (.slice m.aA m.ats.size m.aC)):=by show _=_;rw [G.out];rfl
    have g6:Hid (M[12]?=some (.slice m.mA m.mks.size m.mC)):=by show _=_;rw [G.out];rfl
    have g7:Hid (M[13]?=some (.int .i64 m.dn)):=by show _=_;rw [G.out];rfl
    have f3:=qjb hp.c;rw [hp.nn] at f3;have b0:Hid (∀ W,Below w.heap.size w W->Calls prog 30 #[.agg (qav r.k.z[p]!).toArray,.int .i64 m.lo,.int .i64 m.hi,.slice m.aA m.ats.size m.aC] W fun e C=>(∃ x:KE,e=.returned (.tuple #[.agg (qav x).toArray,.int .i64 (if addB r.k.z[p]!.kn m.lo m.hi m.ats then 0 else 2)])/\(addB r.k.z[p]!.kn m.lo m.hi m.ats=true->AddO r m p W.heap.size x C))/\Below W.heap.size W C):=fun W k=>pAddX (a4.out.below k) d7.out (h3.out.next k) HP.out
    have e5:Hid (∀ W,Below w.heap.size w W->Calls prog 31 #[.slice r.m.A r.m.z.size r.m.c,.int .i64 n,.int .i64 ((p:Int) + 1),.slice m.mA m.mks.size m.mC] W fun e C=>(∃ y:RW (RW Int),e=.returned (.tuple #[.slice y.A y.z.size y.c,.int .i64 (if qas m.mks r.n=0 then 0 else 2)])/\(qas m.mks r.n=0->SepMM W.heap.size C r.m.z y/\qoh r.m.z p (qcd r.m.z[p]!.z m.mks) y.z))/\Below W.heap.size W C):=fun W k=>pTellX (a4.out.below k) (h3.out.next k) HP.out
    have g3:Hid (∀ W,Below w.heap.size w W->Calls prog 32 #[.slice r.fr.A r.fr.z.size r.fr.c,.int .i64 n,.int .i64 ((p:Int) + 1),.int .i64 m.dn] W fun e C=>(∃ f:RW Int,e=.returned (.tuple #[.slice f.A f.z.size f.c,.int .i64 0])/\f.z=qec r.fr.z p m.dn/\OwnJ W.heap.size C f)/\Below W.heap.size W C):=fun W k=>qmh r.fr.A r.fr.c n p r.fr.z m.dn W (a4.out.fr.below k).rd f3 HP.out.pn HP.out.dn
    have l2:Hid (∀ W,Below w.heap.size w W->Calls prog 33 #[.slice (some ⟨S,ok,none⟩) r.k.z.size r.k.c] W fun e C=>∃ g c,e=.returned (.slice (some ⟨g,0,none⟩) r.k.z.size c)/\W.heap.size<=g/\C.ownsRow W.heap.size 66 3 (.slice (some ⟨g,0,none⟩) r.k.z.size c) r.k.z.size (flatK qav 3 r.k.z).toList/\Below W.heap.size W C):=fun W k=>by
     have h1:=(a4.out.k.below k).rd;have m7:r.k.A=some ⟨S,ok,none⟩:=hA;rw [m7] at h1;refine (CloneKn ⟨S,ok,none⟩ r.k.c r.k.z W h1 jo).mono fun e C ⟨v,he,ho,e7⟩=>?_
     obtain ⟨g,c,rfl,hg,hl⟩:=qif ho jo;exact ⟨g,c,he,hg,ho,e7⟩
    have l4:Hid (∀ c,c < 3->w.cell? ⟨S,ok + p * 3 + c,none⟩=some (qav r.k.z[p]!)[c]!):=fk;obtain ⟨ab,i1⟩:∃ ab,addB r.k.z[p]!.kn m.lo m.hi m.ats=ab:=⟨_,rfl⟩
    rw [i1] at b0 I d0;obtain ⟨e1,f1⟩:∃ e1,(if ab then (0:Int) else 2)=e1:=⟨_,rfl⟩
    obtain ⟨e2,f2⟩:∃ e2,(if qas m.mks r.n=0 then (0:Int) else 2)=e2:=⟨_,rfl⟩
    rw [f1] at b0;rw [f2] at e5;have d4:=hI f1;have d5:=hI f2;have l8:=hI j3;have l0:=hI i5;clear i1 h hm hf hk hh hp hA fk f3 f1 f2 j0 i5;rw [o,l];go_in;rw [<-o,<-l];clear o l;have t:=hI (BoxO.init w cs M qby);simp only [qby] at t;have x1:=t.out.r.box F;have x2:=t.out.r.rowAt;have x3:=t.out.m.box j5;have x4:=t.out.m.rowAt;have x5:=t.out.m.at_ 0 a3.out;go_upto_region 3 with (go_at_call 29;refine (HH.out _ t.out.r.b).mono ?_;rintro _ d ⟨rfl,k⟩;have A:=hI (t.out.next k);clear k x1 x2 x3 x4 x5)
    clear t HH a3;have T:Hid (∀ W,Below d.heap.size d W->Calls prog 30 #[.agg (qav r.k.z[p]!).toArray,.int .i64 m.lo,.int .i64 m.hi,.slice m.aA m.ats.size m.aC] W fun e C=>(∃ x:KE,e=.returned (.tuple #[.agg (qav x).toArray,.int .i64 e1])/\(ab=true->AddO r m p d.heap.size x C))/\Below W.heap.size W C):=fun W k=>(b0.out W (qaa A.out.r.b k)).mono fun e C ⟨⟨x,he,ha⟩,e7⟩=>⟨⟨x,he,fun q=>(ha q).at_ k.size (ha q).rd⟩,e7⟩
    clear b0
    go_cut [6,7] from 22 to 38 (fun v6 v7 wx=>∃ (g:Nat) (x:KE),v6=.pointer (some ⟨g,0,none⟩)/\v7=.int .i64 e1/\Hid (ab=true->AddO r m p d.heap.size x wx)/\Hid (wx.heap[g]?=some (.cells (qav x).toArray 66 (0,0)))/\Hid (d.heap.size<=g)/\Hid (Below d.heap.size d wx))
    case first =>
     have o0:Below d.heap.size d d:=vag _ _;obtain ⟨u,hu⟩:∃ u,r.k.z[p]! = u:=⟨_,rfl⟩
     have KS:Hid (∀ W,Below d.heap.size d W->Below d.heap.size d W/\W.cell? ⟨w.heap.size,9,none⟩=some (.slice (some ⟨S,ok,none⟩) r.k.z.size r.k.c)/\W.cell? ⟨w.heap.size + 1,1,none⟩=some (.int .i64 ((p:Int) + 1))/\W.cell? ⟨w.heap.size + 1,9,none⟩=some (.int .i64 m.lo)/\W.cell? ⟨w.heap.size + 1,10,none⟩=some (.int .i64 m.hi)/\W.cell? ⟨w.heap.size + 1,11,none⟩=some (.slice m.aA m.ats.size m.aC)/\W.cell? ⟨S,ok + p * 3,none⟩=some (.int .i64 u.base)/\W.cell? ⟨S,ok + p * 3 + 1,none⟩=some (.slice u.r.A u.r.z.size u.r.c)/\W.cell? ⟨S,ok + p * 3 + 2,none⟩=some (.slice u.a.A u.a.z.size u.a.c)):=fun W k=>by
      have N:=A.out.next k;have hw:=N.r.b;have hq:∀ c,c < 3->W.cell? ⟨S,ok + p * 3 + c,none⟩=some (qav u)[c]!:=fun c hc=>(hw.cell (p:=⟨S,ok + p * 3 + c,none⟩) l0.out).trans (hu ▸ l4.out c hc)
      exact ⟨k,N.r.at_ 9 e4.out,N.m.at_ 1 b1.out,N.m.at_ 9 l6.out,N.m.at_ 10 g4.out,N.m.at_ 11 g5.out,hq 0 jo,hq 1 jo,hq 2 jo⟩
     rw [hu] at T;simp only [qav] at T;clear hu;go_region_held3 (fun W=>Below d.heap.size d W/\W.cell? ⟨w.heap.size,9,none⟩=some (.slice (some ⟨S,ok,none⟩) r.k.z.size r.k.c)/\W.cell? ⟨w.heap.size + 1,1,none⟩=some (.int .i64 ((p:Int) + 1))/\W.cell? ⟨w.heap.size + 1,9,none⟩=some (.int .i64 m.lo)/\W.cell? ⟨w.heap.size + 1,10,none⟩=some (.int .i64 m.hi)/\W.cell? ⟨w.heap.size + 1,11,none⟩=some (.slice m.aA m.ats.size m.aC)/\W.cell? ⟨S,ok + p * 3,none⟩=some (.int .i64 u.base)/\W.cell? ⟨S,ok + p * 3 + 1,none⟩=some (.slice u.r.A u.r.z.size u.r.c)/\W.cell? ⟨S,ok + p * 3 + 2,none⟩=some (.slice u.a.A u.a.z.size u.a.c)) (exact KS.out _ (by first | assumption | exact vaq jN | exact qab jy _ | exact (qab jN _).drew | exact ((Below.setCell (p:=⟨d.heap.size,0,none⟩) jN (vaa _) _).setCell (p:=⟨d.heap.size,1,none⟩) (vaa _) _).setCell (p:=⟨d.heap.size,2,none⟩) (vaa _) _))
      (first
        | (go_at_call 30;((with_reducible refine (T.out _ jw).mono ?_);rintro e Y ⟨⟨x,rfl,a5⟩,f0⟩;have e9:Below d.heap.size d Y:=qaa jw f0;have O:=hI a5;clear a5;(try (have hq:Y.heap[d.heap.size]?=some (.cells #[.int .i64 0,.slice none 0 0,.slice none 0 0] 66 (0,0)):=(f0.block d.heap.size js).trans (vaw d _);have z0:Y.cell? ⟨d.heap.size,0,none⟩=some (.int .i64 0):=(vas Y _ 0 _ _ (0,0) hq).trans rfl;have z1:Y.cell? ⟨d.heap.size,1,none⟩=some (.slice none 0 0):=(vas Y _ 1 _ _ (0,0) hq).trans rfl;have z2:Y.cell? ⟨d.heap.size,2,none⟩=some (.slice none 0 0):=(vas Y _ 2 _ _ (0,0) hq).trans rfl;have y0:Y.frozen? ⟨d.heap.size,0,none⟩=false:=(by simp [World.frozen?,hq]);have y1:Y.frozen? ⟨d.heap.size,1,none⟩=false:=(by simp [World.frozen?,hq]);have y2:Y.frozen? ⟨d.heap.size,2,none⟩=false:=(by simp [World.frozen?,hq]);have HQ:=hI hq;clear hq));clear f0)))
     .go_wp2
      go_meet;have n4:=e9.size;exact ⟨Y.heap.size,x,rfl,rfl,fun q=>(O.out q).at_ (vaa _) ((O.out q).rd.below (bel1 Y _)),vaw Y _,n4,qab e9 _⟩
     go_wp2;go_meet;have m9:=((e9.setCell (p:=⟨d.heap.size,0,none⟩) (vaa _) (.int .i64 x.base)).setCell (p:=⟨d.heap.size,1,none⟩) (vaa _) (.slice x.r.A x.r.z.size x.r.c)).setCell (p:=⟨d.heap.size,2,none⟩) (vaa _) (.slice x.a.A x.a.z.size x.a.c);exact ⟨d.heap.size,x,rfl,rfl,fun q=>(O.out q).at_ (vaa _) (qly HQ.out (O.out q).rd _ _ _),qqv HQ.out _ _ _,vaa _,m9⟩
    case rest =>
     obtain ⟨g,x,rfl,rfl,O,d9,d8,d2⟩:=hcut;have Q:=hI (A.out.next d2.out);clear T;have e6:=Q.out.r.at_ 10 c2.out;have c0:=Q.out.r.at_ 0 g9.out;have m1:=Q.out.m.at_ 1 b1.out;have n5:=Q.out.m.at_ 12 g6.out
     go_upto_region 6 with (first
      | (go_at_call 31;refine (e5.out _ Q.out.r.b).mono ?_;rintro _ w2 ⟨⟨y,rfl,hy⟩,k⟩;have HY:=hI hy;have Z:=hI k;have P:=hI (Q.out.next k);clear k hy e6 c0 m1 n5;have c11:=P.out.r.at_ 11 c3.out;have c0:=P.out.r.at_ 0 g9.out;have m1:=P.out.m.at_ 1 b1.out;have n6:=P.out.m.at_ 13 g7.out)
      | (go_at_call 32;refine (g3.out _ P.out.r.b).mono ?_;rintro _ w3 ⟨⟨f,rfl,i8,i7⟩,k⟩;have f7:=hI i8;have f8:=hI i7;have a0:=hI k;have z:=hI (P.out.next k);clear k i8 i7 c11 c0 m1 n6;have x1:=z.out.r.box F;have x2:=z.out.r.rowAt;have x3:=z.out.z.box (n:=18) rfl))
     clear e5 g3 Q P;by_cases ha:ab=true
     .obtain rfl:0=e1:=by rw [<-d4.out,vam ha]
      by_cases N:qas m.mks r.n=0
      .obtain rfl:0=e2:=by rw [<-d5.out,vam N]
       obtain ⟨a5,i4,i2,i3⟩:=O.out ha;obtain ⟨k4,k5⟩:=HY.out N;have c5:=d0.out ha N;have E:okPr r m=true:=by rw [I.out,ha,vah N];rfl
       have b8:=hI a5;have b9:=hI i4;have a2:=hI i2;have c1:=hI i3;have h7:=hI k4;have h8:=hI k5;have HO:=hI c5;have l7:=hI E;clear ha N a5 i4 i2 i3 k4 k5 c5 E O HY d4 d5 I d0 x1 x2 x3;have c9:=z.out.r.at_ 9 e4.out;go_upto_region 9 with (go_at_call 33;refine (l2.out _ z.out.r.b).mono ?_;rintro _ w4 ⟨K,cK,rfl,i0,c6,k⟩;have d1:=hI k;have b3:=hI (z.out.next k);have g8:=hI c6;have HK:=hI i0;clear k c6 i0 c9;have c9:=b3.out.r.at_ 9 e4.out;have f9:=b3.out.r.froz 9)
       have m3:=z.out.z.lt;obtain ⟨B,hB⟩:∃ B,B=w.heap.size + 1 + 1 + 1:=⟨_,rfl⟩
       have m8:B<=K:=by have:=HK.out;omega
       have c8:=qdj g8.out (show B<=w3.heap.size by omega);have a9:=qcm c8 (show w.heap.size < B by omega) 9 (.slice (some ⟨K,0,none⟩) r.k.z.size cK);have a1:=hI (b3.out.setR 9 (.slice (some ⟨K,0,none⟩) r.k.z.size cK));obtain ⟨b4,V⟩:∃ c,c=cs.setIfInBounds 9 (.slice (some ⟨K,0,none⟩) r.k.z.size cK):=⟨_,rfl⟩
       rw [<-V] at a1;have H5:Hid (∀ j,B<=j->j < w3.heap.size->(w4.setCell ⟨w.heap.size,9,none⟩ (.slice (some ⟨K,0,none⟩) r.k.z.size cK)).heap[j]?=w3.heap[j]?):=hI (fun j j1 j2=>(vbf _ ⟨w.heap.size,9,none⟩ j _ jso).trans (d1.out.block j j2));have f5:w3.heap.size<=(w4.setCell ⟨w.heap.size,9,none⟩ (.slice (some ⟨K,0,none⟩) r.k.z.size cK)).heap.size:=by have:=d1.out.size;simpa using this
       obtain ⟨w5,j8⟩:∃ W,W=w4.setCell ⟨w.heap.size,9,none⟩ (.slice (some ⟨K,0,none⟩) r.k.z.size cK):=⟨_,rfl⟩
       rw [<-j8] at a9 a1 H5 f5 |-
       have H:=hI a9;have HB:=hI hB;have d3:=hI V;clear j8 c9 f9 c8 a9 g8 b3;have q9:b4[9]?=some (.slice (some ⟨K,0,none⟩) r.k.z.size cK):=by rw [V];simp [F]
       have c9:=a1.out.r.at_ 9 q9;have m1:=a1.out.m.at_ 1 b1.out;have i9:=qcj d9.out;have a8:B<=d.heap.size:=by have:=A.out.z.lt;omega
       have U:Hid (w5.heap[g]?=some (.cells (qav x).toArray 66 (0,0))):=hI ((H5.out g (jg d8.out) (by have:=Z.out.size;have:=a0.out.size;omega)).trans ((a0.out.block g (jg Z.out.size)).trans ((Z.out.block g i9).trans d9.out)));have g0:w5.cell? ⟨g,0,none⟩=some (.int .i64 x.base):=(vas w5 g 0 _ _ (0,0) U.out).trans rfl;have g1:w5.cell? ⟨g,1,none⟩=some (.slice x.r.A x.r.z.size x.r.c):=(vas w5 g 1 _ _ (0,0) U.out).trans rfl;have g2:w5.cell? ⟨g,2,none⟩=some (.slice x.a.A x.a.z.size x.a.c):=(vas w5 g 2 _ _ (0,0) U.out).trans rfl;obtain ⟨y0,k0⟩:=qgn H.out (j:=p * 3) jo;obtain ⟨y1,k1⟩:=qgn H.out (j:=p * 3 + 1) jo;obtain ⟨y2,k2⟩:=qgn H.out (j:=p * 3 + 2) jo;have q0:=H.out.frozenAt (p * 3);have q1:=H.out.frozenAt (p * 3 + 1);have q2:=H.out.frozenAt (p * 3 + 2);have l5:Hid (d.heap.size<=g):=d8;clear hB V q9 i9 d9 d8 U;go_upto_region 10 with fail
       have J:=hI (a1.out.put3 (by have:=HB.out;omega:w.heap.size + 1 + 1 + 1<=K) p x);have b2:=hI (qwg H.out l8.out x);have H6:Hid (∀ j,B<=j->j < w3.heap.size->(put3 w5 K p x).heap[j]?=w3.heap[j]?):=hI (fun j j1 j2=>(qon w5 K p x (jg HK.out)).trans (H5.out j j1 j2));have b6:w3.heap.size<=(put3 w5 K p x).heap.size:=by rw [qnw];exact f5
       unfold put3 at J b2 H6 b6;obtain ⟨w6,j9⟩:∃ W,W=(((w5.setCell ⟨K,p * 3,none⟩ (.int .i64 x.base)).setCell ⟨K,p * 3 + 1,none⟩ (.slice x.r.A x.r.z.size x.r.c)).setCell ⟨K,p * 3 + 2,none⟩ (.slice x.a.A x.a.z.size x.a.c)):=⟨_,rfl⟩
       rw [<-j9] at J b2 H6 b6 |-
       clear j9 c9 m1 g0 g1 g2 k0 k1 k2 q0 q1 q2 a1 H H5 f5;have k6:b4[10]?=some (.slice r.m.A r.m.z.size r.m.c):=by rw [d3.out,vbb,vao jo];exact c2.out
       have k7:b4[11]?=some (.slice r.fr.A r.fr.z.size r.fr.c):=by rw [d3.out,vbb,vao jo];exact c3.out
       have e6:=J.out.r.at_ 10 k6;have c11:=J.out.r.at_ 11 k7;have m5:=J.out.r.froz 10;have m6:=J.out.r.froz 11;clear k6 k7;go_upto_region 11 with fail
       have L:=hI ((J.out.setR 10 (.slice y.A y.z.size y.c)).setR 11 (.slice f.A f.z.size f.c));have h9:w.heap.size < B:=by have:=HB.out;omega
       have e0:=hI (qcm (qcm b2.out h9 10 (.slice y.A y.z.size y.c)) h9 11 (.slice f.A f.z.size f.c));have H7:Hid (∀ j,B<=j->j < w3.heap.size->((w6.setCell ⟨w.heap.size,10,none⟩ (.slice y.A y.z.size y.c)).setCell ⟨w.heap.size,11,none⟩ (.slice f.A f.z.size f.c)).heap[j]?=w3.heap[j]?):=hI (fun j j1 j2=>(vbf _ ⟨w.heap.size,11,none⟩ j _ jso).trans ((vbf _ ⟨w.heap.size,10,none⟩ j _ jso).trans (H6.out j j1 j2)));have b7:w3.heap.size<=((w6.setCell ⟨w.heap.size,10,none⟩ (.slice y.A y.z.size y.c)).setCell ⟨w.heap.size,11,none⟩ (.slice f.A f.z.size f.c)).heap.size:=by simpa using b6
       obtain ⟨w7,k3⟩:∃ W,W=(w6.setCell ⟨w.heap.size,10,none⟩ (.slice y.A y.z.size y.c)).setCell ⟨w.heap.size,11,none⟩ (.slice f.A f.z.size f.c):=⟨_,rfl⟩
       rw [<-k3] at L e0 H7 b7 |-
       clear k3 e6 c11 m5 m6 J b2 H6 b6;obtain ⟨m4,X⟩:∃ c,c=(encP (rpP r p K cK x y f)).toArray:=⟨_,rfl⟩
       have c7:(b4.setIfInBounds 10 (.slice y.A y.z.size y.c)).setIfInBounds 11 (.slice f.A f.z.size f.c)=m4:=by
        rw [d3.out,D.out,X];simp [encP,rpP]
       rw [c7] at L;have n1:=Z.out.size;have n2:=a0.out.size;have n3:=d2.out.size
       have h4:Hid (SepR r B w7 (rpP r p K cK x y f)):=hI (qxr e0.out ((a2.out.mono a8).rd ((c1.out.below Z.out).below a0.out) H7.out b7) (a2.out.mono a8)
        (h7.out.next jo jo (fun j j1 j2=>(H7.out j jo jo).trans (a0.out.block j j2)))
        (f8.out.next jo b7 (fun j j1 j2=>H7.out j jo j2)))
       have e3:Hid (PromR r m (rpP r p K cK x y f)):=hI (prom_of HO.out b8.out b9.out h8.out f7.out);have d6:=hI (e3.out.few HO.out d7.out);have f6:=hI (e3.out.chk HO.out d7.out);have h0:=hI (h4.out.rd (a4.out.below L.out.r.b));have l9:=hI (qto (R:=RefR (rpP r p K cK x y f)) (fun W a _=>qpd _ W a d6.out f6.out) X h0.out d6.out.c);have j6:=(rowP X).1;have x1:=L.out.r.box j6;have x2:=L.out.r.rowAt;clear c7 X n1 n2 n3 e0 H7 b7 b8 b9 a2 c1 h7 h8 f7 f8 Z a0 d1 d2 HK l5 a8 m8 z A m3
       go_wp2_with (first
        | (go_at_call 35;refine l9.out.mono ?_;rintro _ w8 ⟨⟨b,n8,rfl,c4,j4,a7⟩,b5⟩;have m2:=hI (L.out.next b5);have h2:=hI j4;have h5:=hI a7;have k8:=hI b5;have HD:=hI (qto (R:=DropR b) (fun W a c=>qtp b W a c) c4 (h5.out.rd (h0.out.below b5)) (h2.out.few f6.out d6.out));clear j4 a7 b5 c4 x1 x2)
        | (go_at_call 34;refine HD.out.mono ?_;rintro _ w9 ⟨⟨s,n9,rfl,a6,i6,a7⟩,e8⟩;have h6:=hI (m2.out.next e8);have l3:=hI i6;have m0:=hI a7;have k9:=hI e8;have l1:=hI a6;obtain ⟨j7,n0⟩:=rowP a6;clear i6 a7 e8 a6;have x3:=h6.out.z.box (n:=18) rfl))
       refine vau (qbh rfl rfl (vbz _ _ _ _ _ _ h6.out.z.row) j7) rfl ?_;exact qrf l1.out rfl l7.out e3.out h2.out l3.out (by rw [<-HB.out];exact h4.out) h5.out m0.out L.out.r.b k8.out k9.out jo L.out.z.lt
      obtain rfl:2=e2:=by rw [<-d5.out,vao N]
      have E:okPr r m=false:=by rw [I.out,vab N,vdz]
      go_wp2;refine vau (qbh rfl rfl (vbz _ _ _ _ _ _ z.out.z.row) F) rfl ?_;exact qga D.out rfl E z.out.r.b jo
     obtain rfl:2=e1:=by rw [<-d4.out,vao ha]
     have E:okPr r m=false:=by rw [I.out];rw [vdr] at ha;rw [ha,vez]
     go_wp2;refine vau (qbh rfl rfl (vbz _ _ _ _ _ _ z.out.z.row) F) rfl ?_;exact qga D.out rfl E z.out.r.b jo
   have E:okPr r m=false:=by unfold okPr;rw [vdr] at hh;rw [hh,vdz];rfl
   rw [vdr] at hh;rw [hh] at HH;clear h hm hf hk hh;rw [o,l];go_in;rw [<-o,<-l];clear o l;have t:=hI (BoxO.init w cs M qby);simp only [qby] at t;have x1:=t.out.r.box F;have x2:=t.out.r.rowAt;have x3:=t.out.m.box j5;have x4:=t.out.m.rowAt;have x5:=t.out.m.at_ 0 a3.out;go_wp2_with (go_at_call 29;refine (HH.out _ t.out.r.b).mono ?_;rintro _ d ⟨rfl,k⟩;have A:=hI (t.out.next k);clear k x1 x2 x3 x4 x5;have x1:=A.out.r.box F;have x2:=A.out.r.rowAt;have x3:=A.out.z.box (n:=18) rfl);refine vau (qbh rfl rfl (vbz _ _ _ _ _ _ A.out.z.row) F) rfl ?_;exact qga D.out rfl E A.out.r.b jo
  have E:okPr r m=false:=by unfold okPr;rw [vab hk];rfl
  have o1:(m.k != 10)=true:=by simp [hk]
  have a3:Hid (M[0]?=some (.int .i64 m.k)):=by show _=_;rw [G.out];rfl
  clear h hm hf hk;rw [o,l];go_in;rw [<-o,<-l];clear o l;have t:=hI (BoxO.init w cs M qby);simp only [qby] at t;have x1:=t.out.r.box F;have x2:=t.out.r.rowAt;have x3:=t.out.z.box (n:=18) rfl;have x5:=t.out.m.at_ 0 a3.out;go_wp2;refine vau (qbh rfl rfl (vbz _ _ _ _ _ _ t.out.z.row) F) rfl ?_;exact qga D.out rfl E t.out.r.b jo
 exact f4 _ _ o l
def StartO (P:RP->Int->RP->List OU->Prop) (t:RP) (id:Int) (W:World) (e:Ending) (w':World):Prop :=
 (∃ (s:RP) (y:RW OU),e=.returned (.tuple #[.agg (encP s).toArray,.slice y.A y.z.size y.c])/\P t id s y.z.toList/\SepR t W.heap.size w' s/\RdN qde 15 w' y)/\Below W.heap.size W w'
def TickO (P:RP->Int->RP->List OU->Prop) (r:RP) (w:World) (e:Ending) (w':World):Prop :=
 (∃ (s:RP) (x:RW OU),e=.returned (.tuple #[.agg (encP s).toArray,.slice x.A x.z.size x.c])/\TickR P r s x w'/\SepR r w.heap.size w' s/\RdN qde 15 w' x)/\Below w.heap.size w w'
theorem tick_good {P:RP->Int->RP->List OU->Prop} {r l e s:RP} {a:PM} {k:List OU} {x:RW OU} {w W:World} {g:Nat} {c:Array Value} (C:c=(encP s).toArray) (E:chkR r=true) (p:RefR r l) (t:AgedR l e)
 (u:qjj P e (dueR e) (dueR e).size s k) (v:x.z=(k ++ (qjx s s.e.z.size ++ allO s a)).toArray) (y:PrmM s a) (z:RdM W a) (A:SepR r (g + 1) W s) (B:RdN qde 15 W x) (m:FreshA (g + 1) x.A) (n:FreshA (g + 1) a.aA) (o:FreshA (g + 1) a.mA)
 (f:Below w.heap.size w W) (F:w.heap.size<=g):TickO P r w (.returned (.tuple #[.agg c,.slice x.A x.z.size x.c])) (W.setRow g c):=by
 subst C;have h:∀ b,b≠g->(W.setRow g (encP s).toArray).heap[b]?=W.heap[b]?:=fun b f=>vbg _ _ b _ f
 have i:(W.setRow g (encP s).toArray).heap.size=W.heap.size:=by simp
 refine ⟨⟨s,x,rfl,Or.inr ⟨E,l,e,a,k,p,t,u,v,y,?_⟩,?_,?_⟩,f.trans ⟨rfl,rfl,rfl,by simp,fun j D=>vbg _ _ j _ jo⟩⟩
 .exact z.far i (fun q d=>by have:=n q d;omega) (fun q d=>by have:=o q d;omega) h
 .exact (A.congr i (fun j D=>h j jo)).monoG jo
 exact B.farG i (fun _ q d=>by have:=m q d;omega) h
structure TickL (P:RP->Int->RP->List OU->Prop) (w3:World) (s2:RP) (y:RW Int) (k:Nat) (t:RP) (ct:Array Value) (x:RW OU) (W:World):Prop where
 st:qjj P s2 (dueR s2) k t x.z.toList
 rx:RdN qde 15 W x
 fx:FreshA (w3.heap.size + 1) x.A
 bt:W.heap[w3.heap.size]?=some (.cells ct 35 (0,0))
 ct:ct=(encP t).toArray
 sp:SepR s2 (w3.heap.size + 1) W t
 b3:Below w3.heap.size w3 W
 ry:RdJ W y
theorem TickL.next {P:RP->Int->RP->List OU->Prop} {d:World} {c t:RP} {y:RW Int} {k:Nat} {b:Array Value} {x:RW OU} {W W':World} (h:TickL P d c y k t b x W) (a:Below W.heap.size W W'):TickL P d c y k t b x W' :=
 ⟨h.st,h.rx.below a,h.fx,(a.block _ (qbi h.bt)).trans h.bt,h.ct,h.sp.below a,qaa h.b3 a,h.ry.below a⟩
theorem TickL.rd {P:RP->Int->RP->List OU->Prop} {b:World} {a t:RP} {y:RW Int} {k:Nat} {c:Array Value} {x:RW OU} {W:World} (h:TickL P b a y k t c x W) (d:RdP b a):RdP W t:=h.sp.rd (d.below h.b3)
theorem TickL.step {P:RP->Int->RP->List OU->Prop} {a:World} {l t s:RP} {y:RW Int} {k:Nat} {r cs:Array Value} {x o z:RW OU} {W e W2:World} (h:TickL P a l y k t r x W) (C:FreshA (a.heap.size + 1) y.A)
 (A:P t (dueR l)[k]! s o.z.toList) (u:cs=(encP s).toArray) (B:SepR t W.heap.size e s) (n:Below W.heap.size W e) (p:Below e.heap.size e W2) (D:z.z=x.z ++ o.z) (E:RdN qde 15 W2 z) (m:FreshA (a.heap.size + 1) z.A):TickL P a l y (k + 1) s cs z (W2.setRow a.heap.size cs):=by
 have g:=qbi h.bt;have f:∀ b,b≠a.heap.size->(W2.setRow a.heap.size cs).heap[b]?=W2.heap[b]?:=fun b d=>vbg _ _ b _ d
 have c:(W2.setRow a.heap.size cs).heap.size=W2.heap.size:=by simp
 have d:=qaa n p;refine ⟨⟨t,x.z.toList,o.z.toList,h.st,A,by rw [D];simp⟩,E.farG c (fun _ q i=>by have:=m q i;omega) f,m,vbz _ _ _ _ _ _ ((d.block _ g).trans h.bt),u,?_,?_,?_⟩
 .exact ((h.sp.trans B n jo).below p).congr c (fun j v=>f j jo)
 .exact (qaa h.b3 d).trans ⟨rfl,rfl,rfl,by simp,fun j v=>f j jo⟩
 exact (h.ry.below d).farG c (fun _ q i=>by have:=C q i;omega) f
theorem qtz (P:RP->Int->RP->List OU->Prop) (r:RP) (w:World) (h:RdP w r) (hf:FewM r)
 (e2:∀ m l,chkR r=true->RefR r m->AgedR m l->∀ k t os,k < (dueR l).size->qjj P l (dueR l) k t os->∀ W,RdP W t->Calls prog 53 #[.agg (encP t).toArray,.int .i64 (dueR l)[k]!] W fun e u=>StartO P t (dueR l)[k]! W e u)
 (d7:∀ m l,chkR r=true->RefR r m->AgedR m l->∀ k t os,k<=(dueR l).size->qjj P l (dueR l) k t os->chkR t=true/\FewC t/\os.length<=9 * k) :
 Calls prog 16 #[.agg (encP r).toArray] w fun e u=>TickO P r w e u:=by
 have HC:Hid (∀ W,Below w.heap.size w W->Calls prog 15 #[.agg (encP r).toArray] W fun e u=>e=.returned (.int .i64 (repE r))/\Below W.heap.size W u):=fun W d=>qcx r W (h.below d) hf.c
 have e0:=hI h;have a7:Hid (chkR r=true->∀ W,Below w.heap.size w W->Calls prog 35 #[.agg (encP r).toArray] W fun e u=>(∃ (s:RP) (c:Array Value),e=.returned (.agg c)/\c=(encP s).toArray/\RefR r s/\SepR r W.heap.size u s)/\Below W.heap.size W u):=fun U W d =>
  qto (R:=RefR r) (fun W a _=>qpd r W a hf U) rfl (h.below d) hf.c
 have Z:=hI (fun (U:chkR r=true) (m:RP) (h1:RefR r m)=>(⟨h1.chk U hf,h1.few U hf⟩:chkR m=true/\FewC m));have f6:Hid (∀ (m:RP) (c:Array Value),c=(encP m).toArray->FewC m->∀ W,RdP W m->Calls prog 26 #[.agg c] W fun e u=>(∃ (s:RP) (c:Array Value),e=.returned (.agg c)/\c=(encP s).toArray/\AgedR m s/\SepR m W.heap.size u s)/\Below W.heap.size W u):=fun m c e f W a =>
  qto (R:=AgedR m) (fun W a f=>qwu m W a f) e a f
 have g5:Hid (∀ (l:RP) (c:Array Value),c=(encP l).toArray->FewC l->∀ W,RdP W l->Calls prog 25 #[.agg c] W fun e u=>(∃ y:RW Int,e=.returned (.slice y.A y.z.size y.c)/\y.z=dueR l/\RdJ u y/\FreshA W.heap.size y.A)/\Below W.heap.size W u):=fun l c e f W a=>by
  rw [e];refine (due_any l W a f).mono fun e u ⟨⟨v,he,ho⟩,d⟩=>?_
  have j1:u.ownsRow W.heap.size 3 1 v (dueR l).toList.length ((dueR l).toList.map (Value.int .i64)):=by simpa using ho
  obtain ⟨y,rfl,hz,hr⟩:=qcf j1;refine ⟨⟨y,he,by simpa using hz,hr,fun q hq=>?_⟩,d⟩;obtain ⟨_,⟨h1,_⟩ | ⟨g,j9,k0,h1,hB,_⟩⟩:=ho
  .have:y.A=none:=by unfold RW.v at h1;injection h1
   rw [this] at hq;cases hq
  have:y.A=some ⟨g,0,none⟩:=by unfold RW.v at h1;injection h1
  rw [this] at hq;injection hq with hq;rw [<-hq];exact hB
 have i5:Hid (∀ (s:RP) (c:Array Value),c=(encP s).toArray->FewC s->chkR s=true->∀ W,RdP W s->Calls prog 27 #[.agg c] W fun e u=>(∃ (x:RW OU) (pm:PM),e=.returned (.slice x.A x.z.size x.c)/\ToldR s W.heap.size x pm u)/\Below W.heap.size W u):=fun s c e f k W a=>by
  rw [e];exact qsc s W a f k
 have HS:Hid (∀ m l,chkR r=true->RefR r m->AgedR m l->∀ k t os,k < (dueR l).size->qjj P l (dueR l) k t os->∀ (c:Array Value),c=(encP t).toArray->∀ W,RdP W t->Calls prog 53 #[.agg c,.int .i64 (dueR l)[k]!] W fun e u=>(∃ (s:RP) (cs:Array Value) (y:RW OU),e=.returned (.tuple #[.agg cs,.slice y.A y.z.size y.c])/\cs=(encP s).toArray/\P t (dueR l)[k]! s y.z.toList/\SepR t W.heap.size u s/\RdN qde 15 u y)/\Below W.heap.size W u):=fun m l j0 a b k t os h1 h2 c e W h3=>by
  rw [e];exact (e2 m l j0 a b k t os h1 h2 W h3).mono fun e u ⟨⟨s,y,h4,h5,h6,h7⟩,d⟩=>⟨⟨s,_,y,h4,rfl,h5,h6,h7⟩,d⟩
 have HG:=hI d7;obtain ⟨cs,L⟩:∃ cs,cs=(encP r).toArray:=⟨_,rfl⟩
 obtain ⟨a8,j7⟩:=rowP L;have g4:=hI L;rw [<-L] at HC a7;clear h hf e2 d7;have c8:∀ x:Array Value,cs=x->Calls prog 16 #[.agg x] w fun e u=>TickO P r w e u:=by
  rintro _ rfl;simp only [encP] at L;rw [L];go_in;rw [<-L];clear L;have HX:=hI (BoxG.fst w cs qby 35 35);have HZ:=hI (BoxG.snd w cs qby 35 35);simp only [qby] at HX HZ;have x1:=HX.out.box a8;have x2:=HX.out.rowAt;by_cases U:chkR r=true
  .rw [qdh U] at HC
   have a7:=hI (a7.out U);have Z:=hI (Z.out U);have HG:=hI (fun m l=>HG.out m l U);have HS:=hI (fun m l=>HS.out m l U);have g3:=hI U;clear U
   go_upto_region 4 with (first
    | (go_at_call 15;refine (HC.out _ HX.out.b).mono ?_;rintro _ w1 ⟨rfl,d⟩;have Q:=hI (HX.out.next d);have X:=hI (HZ.out.next d);clear d x1 x2;have x1:=Q.out.box a8;have x2:=Q.out.rowAt)
    | (go_at_call 35;refine (a7.out _ Q.out.b).mono ?_;rintro _ w2 ⟨⟨m,c1,rfl,e6,e8,M⟩,d⟩;have e4:=hI (X.out.next d);have A:=hI e8;have b0:=hI M;have g0:=hI e6;have d3:=hI d;clear e8 M e6 d x1 x2)
    | (go_at_call 26;refine (f6.out m c1 g0.out (Z.out m A.out).2 w2 (b0.out.rd (e0.out.below e4.out.b))).mono ?_;rintro _ p ⟨⟨l,c2,rfl,c4,e5,M⟩,d⟩;have b6:=hI (e4.out.next d);have D:=hI e5;have d6:=hI c4;have b1:=hI (b0.out.trans M d d3.out.size);obtain ⟨f1,j2⟩:=rowP c4;have f7:=hI d;clear e5 M c4 d))
   have j8:=X.out.lt;have k1:=b6.out.lt;have b4:Hid (RdP p l):=hI (b1.out.rd (e0.out.below b6.out.b));have d8:Hid (chkR l=true/\FewC l):=⟨D.out.chk (Z.out m A.out).1,D.out.few (Z.out m A.out).2⟩
   have d4:Hid (w1.heap.size<=p.heap.size):=by show _<=_;have:=f7.out.size;have:=d3.out.size;omega
   have a0:Hid ((p.alloc (.cells c2 35)).heap[p.heap.size]?=some (.cells c2 35 (0,0))):=vaw p _;have b2:Hid (Below p.heap.size p (p.alloc (.cells c2 35))):=bel1 p _;have f0:(p.alloc (.cells c2 35)).heap.size=p.heap.size + 1:=by simp
   obtain ⟨w4,f2⟩:∃ W,W=p.alloc (.cells c2 35):=⟨_,rfl⟩
   rw [<-f2] at a0 b2 f0 |-
   clear f2 HX HZ Q;have y1:=qdx a0.out f1;have y2:=qef a0.out;go_upto_region 6 with (go_at_call 25;refine (g5.out l c2 d6.out d8.out.2 w4 (b4.out.below b2.out)).mono ?_;rintro _ w5 ⟨⟨y,rfl,f5,f4,d2⟩,d⟩;have J:=hI f5;have i9:=hI f4;have i8:Hid (FreshA (p.heap.size + 1) y.A):=(by rw [f0] at d2;exact d2);have f8:=hI (qaa b2.out d);have i7:Hid (w5.heap[p.heap.size]?=some (.cells c2 35 (0,0))):=(d.block _ (qbi a0.out)).trans a0.out;clear f5 f4 d2 d y1 y2)
   have k3:y.z.size<=1000:=by rw [J.out];exact vax (dueR_size l) d8.out.2.es
   go_loopw [5,7,8,9,20] (fun v5 v7 v8 v9 i wr=>∃ (k:Nat) (t:RP) (V:Array Value) (x:RW OU),v5=.slice x.A x.z.size x.c/\i=.int .i64 k/\k<=y.z.size/\Hid (TickL P p l y k t V x wr)) (fun _ _ _ _ i _=>y.z.size - (intOf i).toNat)
   case atStart=>exact ⟨0,l,c2,⟨none,0,#[]⟩,rfl,rfl,vaj _,⟨⟨rfl,rfl⟩,⟨fun h0=>absurd h0 jd,fun _=>rfl⟩,fun _ hq=>(by cases hq),i7.out,d6.out,SepR.self _ _ _,f8.out,i9.out⟩⟩
   case round =>
    obtain ⟨k,t,V,x,rfl,rfl,hk,C⟩:=hrel;have g7:=hI C.out.ct;obtain ⟨F,d1⟩:=rowP C.out.ct;have Y:=hI (HG.out m l A.out D.out k t x.z.toList (by rw [<-J.out];exact hk) C.out.st);have k6:x.z.size<=9 * k:=by have:=Y.out.2.2;simpa using this
    have y1:=qdx C.out.bt F;have y2:=qef C.out.bt;by_cases c9:k < y.z.size
    .have kz:(k:Int) < (y.z.size:Int):=by omega
     obtain ⟨b,k7,hA,k2,ck⟩:=C.out.ry.rd.at_ c9;have b5:=hI (HS.out m l A.out D.out k t x.z.toList (by rw [<-J.out];exact c9) C.out.st V C.out.ct wr (C.out.rd b4.out));rw [<-J.out] at b5;obtain ⟨n,hn⟩:∃ n,y.z[k]! = n:=⟨_,rfl⟩
     rw [hn] at b5 ck;have HN:=hI hn;clear hn;rw [hA];go_upto_region 9 with (go_at_call 53;refine b5.out.mono ?_;rintro _ H ⟨⟨s,O,o,rfl,c5,hp,M,e9⟩,d⟩;have g1:=hI c5;have d9:=hI hp;have h8:=hI M;have e1:=hI e9;have f9:=hI d;have b3:=hI (C.out.next d);obtain ⟨a3,d0⟩:=rowP c5;clear c5 hp M e9 d y1 y2 ck)
     have g6:=hI (HG.out m l A.out D.out (k + 1) s (x.z.toList ++ o.z.toList) (by rw [<-J.out];exact c9) ⟨t,_,_,C.out.st,by rw [<-J.out,HN.out];exact d9.out,rfl⟩);have k4:x.z.size + o.z.size<=9 * (k + 1):=by have:=g6.out.2.2;simpa using this
     have I:Hid ((H.alloc (.cells O 35)).heap[H.heap.size]?=some (.cells O 35 (0,0))):=vaw H _;have G:=hI (b3.out.next (bel1 H (.cells O 35)));have d5:Hid (Below H.heap.size H (H.alloc (.cells O 35))):=bel1 H _;have a9:=hI (e1.out.below (bel1 H (.cells O 35)));obtain ⟨N,f3⟩:∃ W,W=H.alloc (.cells O 35):=⟨_,rfl⟩
     obtain ⟨g8,e7⟩:∃ g,H.heap.size=g:=⟨_,rfl⟩
     rw [<-f3] at I G d5 a9 |-
     rw [e7] at I |-
     have j4:p.heap.size < g8:=by rw [<-e7];exact qbi b3.out.bt
     clear f3 b3 e1;have KS:Hid (∀ W,Below N.heap.size N W->qdd W g8 18=true/\rowAt W g8=O):=fun W d=>⟨qdx ((d.block _ (qbi I.out)).trans I.out) a3,qef ((d.block _ (qbi I.out)).trans I.out)⟩
     refine qct (S:=fun W=>qdd W g8 18=true/\rowAt W g8=O) jk ?_;have B:Below N.heap.size N N.drew:=(vag _ _).drew;have T:=KS.out _ B;refine qht (some 30) (i:=0) (v:=.agg O) rfl rfl jk jk jk (fun _ _ _ h=>h) (Or.inl ⟨by rfl,fun W hW=>qeq rfl hW.1 hW.2⟩) T ?_;simp only [Act.put,sA,s0,s1];refine tkG 31 1 T ?_ (ha:=tzq);refine tkG 32 2 T ?_ (ha:=tzq);refine rdy1 3 rfl (fun K E=>?_);go_simp;refine E.out _ _ (KS.out _ (qab B _)) (fun _=>?_);clear E K;refine rdy1 4 rfl (fun K E=>?_);go_simp;refine (qii N.drew.heap.size 2 x o _ (vaw N.drew _) ((G.out.rx.below B).below (bel1 N.drew _)) ((a9.out.below B).below (bel1 N.drew _)) jo).mono ?_;rintro _ w8 ⟨⟨z,rfl,a6,a5,a4⟩,d⟩;have a2:Below N.heap.size N w8:=qaa (qab B _) d;have c0:=hI a6;have b9:=hI a5;have b8:Hid (FreshA (p.heap.size + 1) z.A):=FreshA.mono a4 (vax (qbi G.out.bt) (qab B _).size);refine E.out _ _ (KS.out _ a2) (fun _=>?_);clear E K T a6 a5 a4 d;have j6:=qbi (G.out.next a2).bt;have z1:=qdi w8 p.heap.size _ _ O (G.out.next a2).bt (by rw [F,a3]) d0;refine rdy1 5 rfl (fun K E=>?_);go_simp;have T:qdd (w8.setRow p.heap.size O) g8 18=true/\rowAt (w8.setRow p.heap.size O) g8=O:=by
      have e:(w8.setRow p.heap.size O).heap[g8]?=some (.cells O 35 (0,0)):=(vbg _ _ g8 _ jo).trans ((a2.block _ (qbi I.out)).trans I.out);exact ⟨qdx e a3,qef e⟩
     refine E.out _ _ T (fun _=>?_);clear E K z1;refine tkG 5 6 T ?_ (ha:=tzq);refine qbw jk ?_ _;go_wp2;go_roundw
     case rel=>exact ⟨k + 1,s,O,z,rfl,by go_num,by omega,C.out.step i8.out (by rw [<-J.out,HN.out];exact d9.out) g1.out h8.out f9.out (qaa d5.out a2) c0.out b9.out b8.out⟩
     case measure=>simp [intOf];omega
    have j5:decide ((k:Int) < (y.z.size:Int))=false:=vab jo;obtain rfl:k=y.z.size:=by omega
    go_upto_region 11 with fail
    have i6:=hI (i5.out t V C.out.ct Y.out.2.1 Y.out.1);have KS:Hid (∀ W,Below wr.heap.size wr W->qdd W p.heap.size 18=true/\rowAt W p.heap.size=V):=fun W d=>⟨qdx (C.out.next d).bt F,qef (C.out.next d).bt⟩
    refine qct (S:=fun W=>qdd W p.heap.size 18=true/\rowAt W p.heap.size=V) jk ?_;have B:Below wr.heap.size wr wr.drew:=(vag _ _).drew;have T:=KS.out _ B;refine qht (some 36) (i:=0) (v:=.agg V) rfl rfl jk jk jk (fun _ _ _ h=>h) (Or.inl ⟨by rfl,fun W hW=>qeq rfl hW.1 hW.2⟩) T ?_;simp only [Act.put,sA,s0,s1];refine tkG 37 1 T ?_ (ha:=tzq);refine qht (some 38) (i:=2) (v:=.agg V) rfl rfl jk jk jk (fun _ _ _ h=>h) (Or.inl ⟨by rfl,fun W hW=>qeq rfl hW.1 hW.2⟩) T ?_;simp only [Act.put,sA,s0,s1];refine rdy1 3 rfl (fun K E=>?_);go_simp;refine (i6.out _ ((C.out.next B).rd b4.out)).mono ?_;rintro _ H ⟨⟨o,pm,rfl,j3⟩,d⟩;obtain ⟨t1,t2,t3,t4,t5,t6,t7⟩:=j3;have a1:Below wr.heap.size wr H:=qaa B d;have c7:p.heap.size + 1<=wr.drew.heap.size:=qbi (C.out.next B).bt;have e3:=hI t1;have i0:=hI t2;have i1:=hI t3;have i2:=hI t4;have i3:Hid (FreshA (p.heap.size + 1) pm.aA):=FreshA.mono t6 c7;have i4:Hid (FreshA (p.heap.size + 1) pm.mA):=FreshA.mono t7 c7;have k5:o.z.size<=9 * 1000 + 9:=by
     rw [e3.out];have h9:=(qew Y.out.1).1.2;have h1:=qsb t h9 t.e.z.size;have h2:=qqd t h9 pm;have h3:=Y.out.2.1.es;simp;omega
    refine E.out _ _ (KS.out _ a1) (fun _=>?_);clear E K T d t1 t2 t3 t4 t5 t6 t7 c7;refine rdy1 4 rfl (fun K E=>?_);go_simp;refine E.out _ _ (KS.out _ (qab a1 _)) (fun _=>?_);clear E K;refine rdy1 5 rfl (fun K E=>?_);go_simp;refine (qii H.heap.size 2 x o _ (vaw H _) ((C.out.rx.below a1).below (bel1 H _)) (i2.out.below (bel1 H _)) jo).mono ?_;rintro _ N ⟨⟨z,rfl,a6,a5,a4⟩,d⟩;have c3:Below wr.heap.size wr N:=qaa (qab a1 _) d;have c0:=hI a6;have b9:=hI a5;have b8:Hid (FreshA (p.heap.size + 1) z.A):=FreshA.mono a4 (vax (qbi C.out.bt) (qab a1 _).size);have g9:=hI ((i1.out.next (bel1 H _)).next d);refine E.out _ _ (KS.out _ c3) (fun _=>?_);clear E K a6 a5 a4 d;have b7:=hI (b6.out.next (qaa C.out.b3 c3));have G:=hI (C.out.next c3);have z1:=qdi N (w.heap.size + 1) _ _ V b7.out.row (by rw [F];rfl) d1;refine rdy1 6 rfl (fun K E=>?_);go_simp;have T:qdd (N.setRow (w.heap.size + 1) V) p.heap.size 18=true/\rowAt (N.setRow (w.heap.size + 1) V) p.heap.size=V:=by
     have e:(N.setRow (w.heap.size + 1) V).heap[p.heap.size]?=some (.cells V 35 (0,0)):=(vbg _ _ _ _ jo).trans G.out.bt;exact ⟨qdx e F,qef e⟩
    refine E.out _ _ T (fun _=>?_);clear E K z1;refine tkG 3 7 T ?_ (ha:=tzq);refine qbw jk ?_ _;go_wp2;refine vau (qbh rfl rfl (vbz _ _ _ _ _ _ b7.out.row) F) rfl ?_;refine tick_good g7.out g3.out A.out D.out (by have:=C.out.st;rwa [J.out] at this) ?_ i0.out g9.out ?_ b9.out (b8.out.mono jo) (i3.out.mono jo) (i4.out.mono jo) b7.out.b jo
    .rw [c0.out,e3.out]
     simp
    exact (b1.out.trans (G.out.sp.monoG jo) G.out.b3 d4.out).monoG jo
  rw [qev U] at HC;have g2:Hid (chkR r=false):=by show _=_;simpa using U
  clear U;go_wp2_with (go_at_call 15;refine (HC.out _ HX.out.b).mono ?_;rintro _ w1 ⟨rfl,d⟩;have Q:=hI (HX.out.next d);have X:=hI (HZ.out.next d);clear d x1 x2;have x1:=Q.out.box a8;have x2:=Q.out.rowAt;have x3:=X.out.box (n:=18) rfl);refine vau (qbh rfl rfl (vbz _ _ _ _ _ _ X.out.row) a8) rfl ?_;exact ⟨⟨r,⟨none,0,#[]⟩,by rw [g4.out];rfl,Or.inl ⟨g2.out,rfl,rfl⟩,SepR.self _ _ _,fun h0=>absurd h0 jd,fun _=>rfl⟩,X.out.b.trans ⟨rfl,rfl,rfl,by simp,fun j hj=>vbg _ _ j _ jo⟩⟩
 exact c8 _ L
def KeepB (B:Nat) (W W':World):Prop:=W.heap.size<=W'.heap.size/\∀ j,B<=j->j < W.heap.size->W'.heap[j]?=W.heap[j]?
theorem KeepB.refl (B:Nat) (W:World):KeepB B W W:=⟨vaa _,fun _ _ _=>rfl⟩
theorem KeepB.below {B:Nat} {W W' W2:World} (h:KeepB B W W') (a:Below W'.heap.size W' W2):KeepB B W W2:=⟨vax h.1 a.size,fun j c b=>(a.block j (vad b h.1)).trans (h.2 j c b)⟩
theorem KeepB.set {B:Nat} {W W':World} (h:KeepB B W W') {g:Nat} (c:g < B) (k:Nat) (v:Value):KeepB B W (W'.setCell ⟨g,k,none⟩ v):=⟨by simpa using h.1,fun j a b=>(vbf _ ⟨g,k,none⟩ j _ jso).trans (h.2 j a b)⟩
theorem KeepB.put3 {B:Nat} {W W':World} (h:KeepB B W W') {K:Nat} (c:W.heap.size<=K) (p:Nat) (x:KE):KeepB B W (Go.Proofs.YtdcfffhoajmafaaGreat.put3 W' K p x):=⟨by rw [qnw];exact h.1,fun j a b=>(qon W' K p x jo).trans (h.2 j a b)⟩
theorem SepR.mono {r s:RP} {B a:Nat} {W:World} (h:SepR r B W s) (f:a<=B):SepR r a W s:=fun V c b d=>h V c (fun j g e=>b j jo e) d
structure BoxD (w:World) (cs cm cz:Array Value) (N:Nat) (cn:Array Value) (W:World):Prop where
 o:BoxO w cs cm cz W
 n:BoxG w N cn 35 W
 hN:w.heap.size + 1 + 1 < N
theorem BoxD.next {w W W':World} {cs a c b:Array Value} {N:Nat} (h:BoxD w cs a c N b W) (d:Below W.heap.size W W'):BoxD w cs a c N b W':=⟨h.o.next d,h.n.next d,h.hN⟩
theorem BoxD.setN {w W:World} {cs a c b:Array Value} {N:Nat} (h:BoxD w cs a c N b W) (j:Nat) (v:Value):BoxD w cs a c N (b.setIfInBounds j v) (W.setCell ⟨N,j,none⟩ v):=by
 have:=h.hN
 exact ⟨⟨h.o.r.far (g2:=N) jo jo j v,h.o.m.far (g2:=N) jo jo j v,h.o.z.far (g2:=N) jo jo j v⟩,h.n.set jo j v,h.hN⟩
theorem BoxD.put3 {w W:World} {cs a c b:Array Value} {N K:Nat} (h:BoxD w cs a c N b W) (d:N < K) (p:Nat) (x:KE):BoxD w cs a c N b (Go.Proofs.YtdcfffhoajmafaaGreat.put3 W K p x):=by
 have:=h.hN
 exact ⟨h.o.put3 jo p x,h.n.put3 jo jo p x,h.hN⟩
theorem BoxD.init {w W:World} {cs a b:Array Value} (h:BoxO w cs a b W):BoxD w cs a b W.heap.size cs (W.alloc (.cells cs 35)) :=
 ⟨h.next (bel1 W _),⟨qaa h.r.b (bel1 W _),vaw W _⟩,h.z.lt⟩
theorem dOnPr_any (r:RP) (m:PM) (w:World) (h:RdP w r) (hm:RdM w m) (hf:FewP r) :
 Calls prog 10 #[.agg (encP r).toArray,.agg (msgC m)] w fun e L=>qty r m w e L:=by
 obtain ⟨i0,o3,p1,p2,p3⟩:=vbo qlv;have a4:=hI h;have h9:=hI hm;have b4:=hI hf;obtain ⟨cs,v⟩:∃ cs,cs=(encP r).toArray:=⟨_,rfl⟩
 obtain ⟨A,p8⟩:=rowP v;have C:=hI v;obtain ⟨O,t⟩:∃ O,O=msgC m:=⟨_,rfl⟩
 have k8:O.size=14:=by rw [t];rfl
 have E:=hI t;have g3:∀ x y:Array Value,cs=x->O=y->Calls prog 10 #[.agg x,.agg y] w fun e L=>qty r m w e L:=by
  rintro _ _ rfl rfl;simp only [encP] at v;simp only [msgC] at t;by_cases hk:m.k=10
  .have HH:Hid (∀ W,Below w.heap.size w W->Calls prog 36 #[.agg cs,.agg O] W fun e L=>e=.returned (.bool (qep r m))/\Below W.heap.size W L):=fun W l=>by
    rw [C.out,E.out];exact qrk r m W (h.below l) (hm.next l) hf.c hk
   have a3:Hid (O[0]?=some (.int .i64 10)):=by show _=_;rw [E.out,<-hk];rfl
   by_cases hh:qep r m=true
   .rw [hh] at HH
    obtain ⟨p,n,hp⟩:=heP hh hk hm;have HP:=hI hp;have k6:p < r.k.z.size:=by have:=qgf hp.c;have:=hp.nn;have:=hp.pn;omega
    have d4:=hf.c.k;obtain ⟨S,ok,hA,j7,fk⟩:=h.k.rd.at_ (i:=p) k6;have M:Hid (okPr r m=(addB r.k.z[p]!.kn m.lo m.hi m.ats && decide (qas m.mks r.n=0))):=hp.ok hh hk;have d9:=hI (fun ha P=>hp.okp ha P);have q7:IntKind.i64.wrap (p:Int)=(p:Int):=vcu _ jo;have q6:(p:Int) < (r.k.z.size:Int):=by omega
    have f2:Hid (cs[9]?=some (.slice (some ⟨S,ok,none⟩) r.k.z.size r.k.c)):=by show _=_;rw [C.out,<-hA];rfl
    have h6:Hid (cs[0]?=some (.int .i64 (n:Int))):=by show _=_;rw [C.out,<-hp.nn];rfl
    have d1:Hid (cs[10]?=some (.slice r.m.A r.m.z.size r.m.c)):=by show _=_;rw [C.out];rfl
    have d2:Hid (cs[11]?=some (.slice r.fr.A r.fr.z.size r.fr.c)):=by show _=_;rw [C.out];rfl
    have b5:Hid (O[1]?=some (.int .i64 ((p:Int) + 1))):=by show _=_;rw [E.out,<-hp.fr];rfl
    have m7:Hid (O[9]?=some (.int .i64 m.lo)):=by show _=_;rw [E.out];rfl
    have h0:Hid (O[10]?=some (.int .i64 m.hi)):=by show _=_;rw [E.out];rfl
    have h2:Hid (O[11]?=some (.slice m.aA m.ats.size m.aC)):=by show _=_;rw [E.out];rfl
    have h3:Hid (O[12]?=some (.slice m.mA m.mks.size m.mC)):=by show _=_;rw [E.out];rfl
    have h4:Hid (O[13]?=some (.int .i64 m.dn)):=by show _=_;rw [E.out];rfl
    have f8:=qjb hp.c;rw [hp.nn] at f8;have a9:Hid (∀ W,Below w.heap.size w W->Calls prog 37 #[.agg (qav r.k.z[p]!).toArray,.int .i64 m.lo,.int .i64 m.hi,.slice m.aA m.ats.size m.aC] W fun e L=>(∃ x:KE,e=.returned (.tuple #[.agg (qav x).toArray,.int .i64 (if addB r.k.z[p]!.kn m.lo m.hi m.ats then 0 else 2)])/\(addB r.k.z[p]!.kn m.lo m.hi m.ats=true->AddO r m p W.heap.size x L))/\Below W.heap.size W L):=fun W l=>dAddX (a4.out.below l) b4.out (h9.out.next l) HP.out
    have i3:Hid (∀ W,Below w.heap.size w W->Calls prog 38 #[.slice r.m.A r.m.z.size r.m.c,.int .i64 n,.int .i64 ((p:Int) + 1),.slice m.mA m.mks.size m.mC] W fun e L=>(∃ y:RW (RW Int),e=.returned (.tuple #[.slice y.A y.z.size y.c,.int .i64 (if qas m.mks r.n=0 then 0 else 2)])/\(qas m.mks r.n=0->SepMM W.heap.size L r.m.z y/\qoh r.m.z p (qcd r.m.z[p]!.z m.mks) y.z))/\Below W.heap.size W L):=fun W l=>dTellX (a4.out.below l) (h9.out.next l) HP.out
    have m5:Hid (∀ W,Below w.heap.size w W->Calls prog 39 #[.slice r.fr.A r.fr.z.size r.fr.c,.int .i64 n,.int .i64 ((p:Int) + 1),.int .i64 m.dn] W fun e L=>(∃ f:RW Int,e=.returned (.tuple #[.slice f.A f.z.size f.c,.int .i64 0])/\f.z=qec r.fr.z p m.dn/\OwnJ W.heap.size L f)/\Below W.heap.size W L):=fun W l=>qlj r.fr.A r.fr.c n p r.fr.z m.dn W (a4.out.fr.below l).rd f8 HP.out.pn HP.out.dn
    have m6:Hid (∀ W,Below w.heap.size w W->RdK qav 3 W.heap.size W (some ⟨S,ok,none⟩) r.k.z):=fun W l=>by
     have h1:=(a4.out.k.below l).rd;have n6:r.k.A=some ⟨S,ok,none⟩:=hA
     rwa [n6] at h1
    have m4:Hid (∀ c,c < 3->w.cell? ⟨S,ok + p * 3 + c,none⟩=some (qav r.k.z[p]!)[c]!):=fk;obtain ⟨ab,j3⟩:∃ ab,addB r.k.z[p]!.kn m.lo m.hi m.ats=ab:=⟨_,rfl⟩
    rw [j3] at a9 M d9;obtain ⟨e1,f6⟩:∃ e1,(if ab then (0:Int) else 2)=e1:=⟨_,rfl⟩
    obtain ⟨e2,f7⟩:∃ e2,(if qas m.mks r.n=0 then (0:Int) else 2)=e2:=⟨_,rfl⟩
    rw [f6] at a9;rw [f7] at i3;have e5:=hI f6;have e6:=hI f7;have m9:=hI k6;have l7:=hI j7;clear j3 h hm hf hk hh hp hA fk f8 f6 f7 d4 j7;rw [v,t];go_in;rw [<-v,<-t];clear v t;have z:=hI (BoxO.init w cs O qby);simp only [qby] at z;have x1:=z.out.r.box A;have x2:=z.out.r.rowAt;have x3:=z.out.m.box k8;have x4:=z.out.m.rowAt;have x5:=z.out.m.at_ 0 a3.out;go_upto_region 4 with (go_at_call 36;refine (HH.out _ z.out.r.b).mono ?_;rintro _ w0 ⟨rfl,l⟩;have b7:=hI (z.out.next l);clear l x1 x2 x3 x4 x5;have x1:=b7.out.r.box A;have x2:=b7.out.r.rowAt)
    have a2:=hI (BoxD.init b7.out);obtain ⟨d,g4⟩:∃ W,W=w0.alloc (.cells cs 35):=⟨_,rfl⟩
    have o0:w0.heap.size < d.heap.size:=by rw [g4];simp
    rw [<-g4] at a2 |-
    clear g4 x1 x2 b7;obtain ⟨N,hN⟩:∃ N,w0.heap.size=N:=⟨_,rfl⟩
    rw [hN] at a2 o0 |-
    clear hN;have J:=hI a2.out.o;clear z HH a3;have T:Hid (∀ W,Below d.heap.size d W->Calls prog 37 #[.agg (qav r.k.z[p]!).toArray,.int .i64 m.lo,.int .i64 m.hi,.slice m.aA m.ats.size m.aC] W fun e L=>(∃ x:KE,e=.returned (.tuple #[.agg (qav x).toArray,.int .i64 e1])/\(ab=true->AddO r m p d.heap.size x L))/\Below W.heap.size W L):=fun W l=>(a9.out W (qaa J.out.r.b l)).mono fun e L ⟨⟨x,he,ha⟩,o1⟩=>⟨⟨x,he,fun q=>(ha q).at_ l.size (ha q).rd⟩,o1⟩
    clear a9
    go_cut [7,8] from 20 to 36 (fun v6 v7 wx=>∃ (g:Nat) (x:KE),v6=.pointer (some ⟨g,0,none⟩)/\v7=.int .i64 e1/\Hid (ab=true->AddO r m p d.heap.size x wx)/\Hid (wx.heap[g]?=some (.cells (qav x).toArray 66 (0,0)))/\Hid (d.heap.size<=g)/\Hid (Below d.heap.size d wx))
    case first =>
     have q4:Below d.heap.size d d:=vag _ _;obtain ⟨u,hu⟩:∃ u,r.k.z[p]! = u:=⟨_,rfl⟩
     have KS:Hid (∀ W,Below d.heap.size d W->Below d.heap.size d W/\W.cell? ⟨w.heap.size,9,none⟩=some (.slice (some ⟨S,ok,none⟩) r.k.z.size r.k.c)/\W.cell? ⟨w.heap.size + 1,1,none⟩=some (.int .i64 ((p:Int) + 1))/\W.cell? ⟨w.heap.size + 1,9,none⟩=some (.int .i64 m.lo)/\W.cell? ⟨w.heap.size + 1,10,none⟩=some (.int .i64 m.hi)/\W.cell? ⟨w.heap.size + 1,11,none⟩=some (.slice m.aA m.ats.size m.aC)/\W.cell? ⟨S,ok + p * 3,none⟩=some (.int .i64 u.base)/\W.cell? ⟨S,ok + p * 3 + 1,none⟩=some (.slice u.r.A u.r.z.size u.r.c)/\W.cell? ⟨S,ok + p * 3 + 2,none⟩=some (.slice u.a.A u.a.z.size u.a.c)):=fun W l=>by
      have P:=J.out.next l;have hw:=P.r.b;have hq:∀ c,c < 3->W.cell? ⟨S,ok + p * 3 + c,none⟩=some (qav u)[c]!:=fun c hc=>(hw.cell (p:=⟨S,ok + p * 3 + c,none⟩) l7.out).trans (hu ▸ m4.out c hc)
      exact ⟨l,P.r.at_ 9 f2.out,P.m.at_ 1 b5.out,P.m.at_ 9 m7.out,P.m.at_ 10 h0.out,P.m.at_ 11 h2.out,hq 0 jo,hq 1 jo,hq 2 jo⟩
     rw [hu] at T;simp only [qav] at T;clear hu;go_region_held3 (fun W=>Below d.heap.size d W/\W.cell? ⟨w.heap.size,9,none⟩=some (.slice (some ⟨S,ok,none⟩) r.k.z.size r.k.c)/\W.cell? ⟨w.heap.size + 1,1,none⟩=some (.int .i64 ((p:Int) + 1))/\W.cell? ⟨w.heap.size + 1,9,none⟩=some (.int .i64 m.lo)/\W.cell? ⟨w.heap.size + 1,10,none⟩=some (.int .i64 m.hi)/\W.cell? ⟨w.heap.size + 1,11,none⟩=some (.slice m.aA m.ats.size m.aC)/\W.cell? ⟨S,ok + p * 3,none⟩=some (.int .i64 u.base)/\W.cell? ⟨S,ok + p * 3 + 1,none⟩=some (.slice u.r.A u.r.z.size u.r.c)/\W.cell? ⟨S,ok + p * 3 + 2,none⟩=some (.slice u.a.A u.a.z.size u.a.c)) (exact KS.out _ (by first | assumption | exact vaq jN | exact qab jy _ | exact (qab jN _).drew | exact ((Below.setCell (p:=⟨d.heap.size,0,none⟩) jN (vaa _) _).setCell (p:=⟨d.heap.size,1,none⟩) (vaa _) _).setCell (p:=⟨d.heap.size,2,none⟩) (vaa _) _))
      (first
        | (go_at_call 37;((with_reducible refine (T.out _ jw).mono ?_);rintro e Y ⟨⟨x,rfl,a6⟩,f5⟩;have f4:Below d.heap.size d Y:=qaa jw f5;have Q:=hI a6;clear a6;(try (have hq:Y.heap[d.heap.size]?=some (.cells #[.int .i64 0,.slice none 0 0,.slice none 0 0] 66 (0,0)):=(f5.block d.heap.size js).trans (vaw d _);have z0:Y.cell? ⟨d.heap.size,0,none⟩=some (.int .i64 0):=(vas Y _ 0 _ _ (0,0) hq).trans rfl;have z1:Y.cell? ⟨d.heap.size,1,none⟩=some (.slice none 0 0):=(vas Y _ 1 _ _ (0,0) hq).trans rfl;have z2:Y.cell? ⟨d.heap.size,2,none⟩=some (.slice none 0 0):=(vas Y _ 2 _ _ (0,0) hq).trans rfl;have y0:Y.frozen? ⟨d.heap.size,0,none⟩=false:=(by simp [World.frozen?,hq]);have y1:Y.frozen? ⟨d.heap.size,1,none⟩=false:=(by simp [World.frozen?,hq]);have y2:Y.frozen? ⟨d.heap.size,2,none⟩=false:=(by simp [World.frozen?,hq]);have HQ:=hI hq;clear hq));clear f5)))
     .go_wp2
      go_meet;have o9:=f4.size;exact ⟨Y.heap.size,x,rfl,rfl,fun q=>(Q.out q).at_ (vaa _) ((Q.out q).rd.below (bel1 Y _)),vaw Y _,o9,qab f4 _⟩
     go_wp2;go_meet;have o2:=((f4.setCell (p:=⟨d.heap.size,0,none⟩) (vaa _) (.int .i64 x.base)).setCell (p:=⟨d.heap.size,1,none⟩) (vaa _) (.slice x.r.A x.r.z.size x.r.c)).setCell (p:=⟨d.heap.size,2,none⟩) (vaa _) (.slice x.a.A x.a.z.size x.a.c);exact ⟨d.heap.size,x,rfl,rfl,fun q=>(Q.out q).at_ (vaa _) (qly HQ.out (Q.out q).rd _ _ _),qqv HQ.out _ _ _,vaa _,o2⟩
    case rest =>
     obtain ⟨g,x,rfl,rfl,Q,e8,g9,e3⟩:=hcut;have H:=hI (a2.out.next e3.out);clear T;by_cases ha:ab=true
     .obtain rfl:0=e1:=by rw [<-e5.out,vam ha]
      obtain ⟨a6,j6,j4,j5⟩:=Q.out ha;have c7:=hI a6;have c8:=hI j6;have a0:=hI j4;have d0:=hI j5;have HA:=hI ha;clear a6 j6 j4 j5 Q ha e5;have c9:=(H.out.next (bel1 wc (.cells #[] 66))).o.r.at_ 9 f2.out;have d4:=b4.out.c.k;go_upto_region 8 with (at_builtin;refine qcq quz qic jd rfl _ _ 24 rfl wc.heap.size 66 i0 (.agg #[.int .i64 0,.slice none 0 0,.slice none 0 0]) 56 underlying24 o3 p1 p2 p3 rfl _ #[] rfl (qba wc 66 qav 3) wc.heap.size (some ⟨S,ok,none⟩) r.k.c r.k.z rfl ((m6.out wc H.out.o.r.b).alloc (vaa _) _) (fun h=>by cases h) jso jd js ?_;intro v1 w3 B k4 _;have B:w3.ownsRow wc.heap.size 66 3 v1 r.k.z.size (flatK qav 3 r.k.z).toList:=(by simpa using B);obtain ⟨K,cK,rfl,i8,n8⟩:=qif B jo;have e0:Hid (Below wc.heap.size wc w3):=hI ((bel1 wc _).grown k4 js (fun k hk=>((qba wc 66 qav 3).lt k hk).1));have b1:=hI (H.out.next e0.out);have h5:=hI B;have HK:=hI i8;clear B k4 i8 n8 c9;have n9:=b1.out.n.at_ 9 f2.out;have f9:=b1.out.n.froz 9)
      have n7:=e3.out.size;have i9:N < K:=by have:=HK.out;omega
      have Z:=hI (b1.out.setN 9 (.slice (some ⟨K,0,none⟩) r.k.z.size cK));have I:=hI (qcm h5.out (show N < wc.heap.size by omega) 9 (.slice (some ⟨K,0,none⟩) r.k.z.size cK));have b8:=hI (((KeepB.refl (N + 1) wc).below e0.out).set (vcr N) 9 (.slice (some ⟨K,0,none⟩) r.k.z.size cK));obtain ⟨w4,l1⟩:∃ W,W=w3.setCell ⟨N,9,none⟩ (.slice (some ⟨K,0,none⟩) r.k.z.size cK):=⟨_,rfl⟩
      obtain ⟨c5,V⟩:∃ c,c=cs.setIfInBounds 9 (.slice (some ⟨K,0,none⟩) r.k.z.size cK):=⟨_,rfl⟩
      rw [<-l1] at Z I b8 |-
      rw [<-V] at Z;have e4:=hI V;clear l1 n9 f9 h5 b1;have q9:c5[9]?=some (.slice (some ⟨K,0,none⟩) r.k.z.size cK):=by rw [V];simp [A]
      have n9:=Z.out.n.at_ 9 q9;have m1:=Z.out.o.m.at_ 1 b5.out;have k5:=qcj e8.out;have U:Hid (w4.heap[g]?=some (.cells (qav x).toArray 66 (0,0))):=hI ((b8.out.2 g (jg g9.out) k5).trans e8.out);have g0:w4.cell? ⟨g,0,none⟩=some (.int .i64 x.base):=(vas w4 g 0 _ _ (0,0) U.out).trans rfl;have g1:w4.cell? ⟨g,1,none⟩=some (.slice x.r.A x.r.z.size x.r.c):=(vas w4 g 1 _ _ (0,0) U.out).trans rfl;have g2:w4.cell? ⟨g,2,none⟩=some (.slice x.a.A x.a.z.size x.a.c):=(vas w4 g 2 _ _ (0,0) U.out).trans rfl;obtain ⟨y0,k0⟩:=qgn I.out (j:=p * 3) jo;obtain ⟨y1,k1⟩:=qgn I.out (j:=p * 3 + 1) jo;obtain ⟨y2,k2⟩:=qgn I.out (j:=p * 3 + 2) jo;have q0:=I.out.frozenAt (p * 3);have q1:=I.out.frozenAt (p * 3 + 1);have q2:=I.out.frozenAt (p * 3 + 2);clear V q9 k5 e8 g9 U;go_upto_region 9 with fail
      have F:=hI (Z.out.put3 i9 p x);have b6:=hI (qwg I.out m9.out x);have a5:=hI (b8.out.put3 HK.out p x);unfold put3 at F b6 a5;obtain ⟨w5,l2⟩:∃ W,W=(((w4.setCell ⟨K,p * 3,none⟩ (.int .i64 x.base)).setCell ⟨K,p * 3 + 1,none⟩ (.slice x.r.A x.r.z.size x.r.c)).setCell ⟨K,p * 3 + 2,none⟩ (.slice x.a.A x.a.z.size x.a.c)):=⟨_,rfl⟩
      rw [<-l2] at F b6 a5 |-
      clear l2 n9 m1 g0 g1 g2 k0 k1 k2 q0 q1 q2 Z I b8;have n2:=F.out.o.r.at_ 10 d1.out;have c0:=F.out.o.r.at_ 0 h6.out;have m1:=F.out.o.m.at_ 1 b5.out;have p4:=F.out.o.m.at_ 12 h3.out;have d7:c5[10]?=some (.slice r.m.A r.m.z.size r.m.c):=by rw [e4.out,vbb,vao jo];exact d1.out
      have d8:c5[11]?=some (.slice r.fr.A r.fr.z.size r.fr.c):=by rw [e4.out,vbb,vao jo];exact d2.out
      have i6:=hI d7;have i7:=hI d8;clear d7 d8;go_upto_region 10 with (go_at_call 38;refine (i3.out _ F.out.o.r.b).mono ?_;rintro _ w6 ⟨⟨y,rfl,hy⟩,l⟩;have HY:=hI hy;have b0:=hI l;have b2:=hI (F.out.next l);clear l hy n2 c0 m1 p4;have p6:=b2.out.n.at_ 10 i6.out;have n4:=b2.out.n.froz 10)
      have o:=hI (b2.out.setN 10 (.slice y.A y.z.size y.c));have j0:N < wc.heap.size:=by omega
      have e9:=hI (qcm (qeh b6.out b0.out) j0 10 (.slice y.A y.z.size y.c));have b9:=hI ((a5.out.below b0.out).set (vcr N) 10 (.slice y.A y.z.size y.c));have c3:=hI ((KeepB.refl (N + 1) w6).set (vcr N) 10 (.slice y.A y.z.size y.c));obtain ⟨w7,l3⟩:∃ W,W=w6.setCell ⟨N,10,none⟩ (.slice y.A y.z.size y.c):=⟨_,rfl⟩
      rw [<-l3] at o e9 b9 c3 |-
      clear l3 p6 n4 b6 b2;by_cases P:qas m.mks r.n=0
      .obtain rfl:0=e2:=by rw [<-e6.out,vam P]
       obtain ⟨l5,l6⟩:=HY.out P;have d5:=d9.out HA.out P;have D:okPr r m=true:=by rw [M.out,HA.out,vah P];rfl
       have i4:=hI l5;have i5:=hI l6;have HO:=hI d5;have m8:=hI D;clear P l5 l6 d5 D HY e6 M d9;have c11:=o.out.o.r.at_ 11 d2.out;have c0:=o.out.o.r.at_ 0 h6.out;have m1:=o.out.o.m.at_ 1 b5.out;have p5:=o.out.o.m.at_ 13 h4.out;go_upto_region 13 with (go_at_call 39;refine (m5.out _ o.out.o.r.b).mono ?_;rintro _ w8 ⟨⟨f,rfl,k3,j9⟩,l⟩;have g7:=hI k3;have g8:=hI j9;have a1:=hI l;have b3:=hI (o.out.next l);clear l k3 j9 c11 c0 m1 p5;have p7:=b3.out.n.at_ 11 (Eq.trans (by rw [vbb,vao jo]) i7.out);have n5:=b3.out.n.froz 11)
       have G:=hI (b3.out.setN 11 (.slice f.A f.z.size f.c));have f0:=hI (qcm (qeh e9.out a1.out) j0 11 (.slice f.A f.z.size f.c));have c1:=hI ((b9.out.below a1.out).set (vcr N) 11 (.slice f.A f.z.size f.c));have c4:=hI ((c3.out.below a1.out).set (vcr N) 11 (.slice f.A f.z.size f.c));have c2:=hI ((KeepB.refl (N + 1) w8).set (vcr N) 11 (.slice f.A f.z.size f.c));obtain ⟨w9,l4⟩:∃ W,W=w8.setCell ⟨N,11,none⟩ (.slice f.A f.z.size f.c):=⟨_,rfl⟩
       rw [<-l4] at G f0 c1 c4 c2 |-
       clear l4 p7 n5 b3 e9;obtain ⟨n3,X⟩:∃ c,c=(encP (rpP r p K cK x y f)).toArray:=⟨_,rfl⟩
       have d6:(c5.setIfInBounds 10 (.slice y.A y.z.size y.c)).setIfInBounds 11 (.slice f.A f.z.size f.c)=n3:=by
        rw [e4.out,C.out,X];simp [encP,rpP]
       rw [d6] at G;have o4:=a5.out.1;have o6:=b9.out.1;have o7:=a1.out.size;have o5:=b0.out.size;have p0:=c3.out.1
       have i1:Hid (SepR r (N + 1) w9 (rpP r p K cK x y f)):=hI (qxr (qdj f0.out jo) ((a0.out.mono (by omega:N + 1<=d.heap.size)).rd d0.out c1.out.2 c1.out.1) (a0.out.mono jo)
        (i4.out.next jo c4.out.1 (fun j j1 j2=>c4.out.2 j jo j2))
        (g8.out.next jo c2.out.1 (fun j j1 j2=>c2.out.2 j jo j2)))
       have f1:Hid (PromR r m (rpP r p K cK x y f)):=hI (prom_of HO.out c7.out c8.out i5.out g7.out);have e7:=hI (f1.out.few HO.out b4.out);have g5:=hI (f1.out.chk HO.out b4.out);have h7:=hI (i1.out.rd (a4.out.below G.out.o.r.b));have n0:=hI (qto (R:=RefR (rpP r p K cK x y f)) (fun W a _=>rRefS_any _ W a e7.out g5.out) X h7.out e7.out.c);have k9:=(rowP X).1;have x1:=G.out.n.box k9;have x2:=G.out.n.rowAt;clear d6 X o4 o5 o6 o7 p0 f0 c1 c4 c2 c7 c8 a0 d0 i4 i5 g7 g8 e0 b0 a1 e3 HK F a5 o b9 c3 n7 i9 H a2 J
       go_wp2_with (first
        | (go_at_call 41;refine n0.out.mono ?_;rintro _ wb ⟨⟨b,p9,rfl,d3,k7,a8⟩,c6⟩;have m3:=hI (G.out.next c6);have h8:=hI k7;have i2:=hI a8;have l8:=hI c6;have HD:=hI (qto (R:=DropR b) (fun W a c=>qtq b W a c) d3 (i2.out.rd (h7.out.below c6)) (h8.out.few g5.out e7.out));clear k7 a8 c6 d3 x1 x2)
        | (go_at_call 40;refine HD.out.mono ?_;rintro _ wd ⟨⟨s,q3,rfl,a7,j8,a8⟩,f3⟩;have g6:=hI (m3.out.next f3);have m2:=hI j8;have n1:=hI a8;have l9:=hI f3;have m0:=hI a7;obtain ⟨l0,o8⟩:=rowP a7;clear j8 a8 f3 a7;have x3:=g6.out.o.z.box (n:=18) rfl))
       refine vau (qbh rfl rfl (vbz _ _ _ _ _ _ g6.out.o.z.row) l0) rfl ?_;exact qrf m0.out rfl m8.out f1.out h8.out m2.out (i1.out.mono (jg G.out.hN)) i2.out n1.out G.out.o.r.b l8.out l9.out jo G.out.o.z.lt
      obtain rfl:2=e2:=by rw [<-e6.out,vao P]
      have D:okPr r m=false:=by rw [M.out,vab P,vdz]
      have x1:=o.out.o.r.box A;have x2:=o.out.o.r.rowAt;have x3:=o.out.o.z.box (n:=18) rfl;go_wp2;refine vau (qbh rfl rfl (vbz _ _ _ _ _ _ o.out.o.z.row) A) rfl ?_;exact qga C.out rfl D o.out.o.r.b jo
     obtain rfl:2=e1:=by rw [<-e5.out,vao ha]
     have D:okPr r m=false:=by rw [M.out];rw [vdr] at ha;rw [ha,vez]
     have x1:=H.out.o.r.box A;have x2:=H.out.o.r.rowAt;have x3:=H.out.o.z.box (n:=18) rfl;go_wp2;refine vau (qbh rfl rfl (vbz _ _ _ _ _ _ H.out.o.z.row) A) rfl ?_;exact qga C.out rfl D H.out.o.r.b jo
   have D:okPr r m=false:=by unfold okPr;rw [vdr] at hh;rw [hh,vdz];rfl
   rw [vdr] at hh;rw [hh] at HH;clear h hm hf hk hh;rw [v,t];go_in;rw [<-v,<-t];clear v t;have z:=hI (BoxO.init w cs O qby);simp only [qby] at z;have x1:=z.out.r.box A;have x2:=z.out.r.rowAt;have x3:=z.out.m.box k8;have x4:=z.out.m.rowAt;have x5:=z.out.m.at_ 0 a3.out;go_wp2_with (go_at_call 36;refine (HH.out _ z.out.r.b).mono ?_;rintro _ d ⟨rfl,l⟩;have J:=hI (z.out.next l);clear l x1 x2 x3 x4 x5;have x1:=J.out.r.box A;have x2:=J.out.r.rowAt;have x3:=J.out.z.box (n:=18) rfl);refine vau (qbh rfl rfl (vbz _ _ _ _ _ _ J.out.z.row) A) rfl ?_;exact qga C.out rfl D J.out.r.b jo
  have D:okPr r m=false:=by unfold okPr;rw [vab hk];rfl
  have q5:(m.k != 10)=true:=by simp [hk]
  have a3:Hid (O[0]?=some (.int .i64 m.k)):=by show _=_;rw [E.out];rfl
  clear h hm hf hk;rw [v,t];go_in;rw [<-v,<-t];clear v t;have z:=hI (BoxO.init w cs O qby);simp only [qby] at z;have x1:=z.out.r.box A;have x2:=z.out.r.rowAt;have x3:=z.out.z.box (n:=18) rfl;have x5:=z.out.m.at_ 0 a3.out;go_wp2;refine vau (qbh rfl rfl (vbz _ _ _ _ _ _ z.out.z.row) A) rfl ?_;exact qga C.out rfl D z.out.r.b jo
 exact g3 _ _ v t
end Go.Proofs.YtdcfffhoajmafaaGreat
set_option maxRecDepth 100000
set_option maxHeartbeats 32000000
namespace Go.Proofs.YtdcfffhoajmafaaGreat
open Go.RowKit Go.Sort Go.Lib Go.Proofs.Tryz
attribute [local go_sem ↓] qap qan qbe
attribute [local go_sem] qaw qao qal qbb qbv qbp
theorem qpn (w:World):Calls prog 12 #[.slice none 0 0,.slice none 0 0] w fun e a=>e=.returned (.bool true)/\w=a:=by
 go_in;go_wp2
 go_loop [5] (fun i=>i=.int .i64 0) (fun _=>0)
 case atStart=>rfl
 case round =>
  subst hrel;go_wp2;go_ret;exact ⟨rfl,rfl⟩
theorem sameL {a b:RP} {c d:Array Value} {W:World} (f:c=(encP a).toArray) (g:d=(encP b).toArray) (k:RdP W a) (l:RdP W b) (i:FewC a) (j:FewC b) (h:EqR a b) :
 Calls prog 11 #[.agg c,.agg d] W fun e m=>e=.returned (.bool true)/\Below W.heap.size W m:=by
 have:=qvq a b W k l i j
 rw [h.same] at this;rw [f,g];exact this
theorem onPrL {f:FuncId} {r:RP} {m:PM} {w:World} {j i:Array Value} (h:Calls prog f #[.agg (encP r).toArray,.agg (msgC m)] w fun e g=>qty r m w e g) (k:j=(encP r).toArray) (l:i=msgC m) :
 Calls prog f #[.agg j,.agg i] w fun e g=>(∃ (s:RP) (c:Array Value),e=.returned (.tuple #[.agg c,.slice none 0 0])/\c=(encP s).toArray/\OnPrR r m s/\SepR r w.heap.size g s)/\Below w.heap.size w g:=by
 rw [k,l];exact h.mono fun e g ⟨⟨s,a,b,c⟩,d⟩=>⟨⟨s,_,a,rfl,b,c⟩,d⟩
theorem frontL {f:FuncId} {r:RP} {t:Int} {w:World} {i:Array Value} (h:Calls prog f #[.agg (encP r).toArray,.int .i64 t] w fun e g=>(∃ s:RP,e=.returned (.agg (encP s).toArray)/\FrontR r t s/\SepR r w.heap.size g s)/\Below w.heap.size w g) (j:i=(encP r).toArray) :
 Calls prog f #[.agg i,.int .i64 t] w fun e g=>(∃ (s:RP) (c:Array Value),e=.returned (.agg c)/\c=(encP s).toArray/\FrontR r t s/\SepR r w.heap.size g s)/\Below w.heap.size w g:=by
 rw [j];exact h.mono fun e g ⟨⟨s,a,b,c⟩,d⟩=>⟨⟨s,_,a,rfl,b,c⟩,d⟩
theorem qrh (aw:∀ W:World,Calls prog 8 #[] W fun e n=>e=.returned (.bool true)/\Below W.heap.size W n) (r:RP) (m:PM) (t:Int) (w:World) (hr:RdP w r) (ra:RdK encA 2 w.heap.size w m.aA m.ats) (rm:RdI w.heap.size w m.mA m.mks) :
 Calls prog 3 #[.agg (encP r).toArray,.agg (msgC m),.int .i64 t] w fun e n=>e=.returned (.bool true)/\Below w.heap.size w n:=by
 have E:Hid (∀ W,Below w.heap.size w W->Calls prog 6 #[.agg (encP r).toArray] W fun e n=>e=.returned (.bool (fewR r))/\Below W.heap.size W n):=fun W f=>few25_any r W (hr.below f)
 have V:Hid (∀ W,Calls prog 7 #[.agg (msgC m)] W fun e n=>e=.returned (.bool (qiz m))/\Below W.heap.size W n):=fun W=>Few_any m W
 have AW:=hI aw;have HR:=hI hr;have a4:Hid (RdK encA 2 w.heap.size w m.aA m.ats/\RdI w.heap.size w m.mA m.mks):=⟨ra,rm⟩
 obtain ⟨g1,b1⟩:∃ g,fewR r=g:=⟨_,rfl⟩
 obtain ⟨g2,b2⟩:∃ g,qiz m=g:=⟨_,rfl⟩
 rw [b1] at E;rw [b2] at V;have d4:=hI b1;have d5:=hI b2;clear b1 b2 hr ra rm aw;obtain ⟨P,z⟩:∃ c,c=(encP r).toArray:=⟨_,rfl⟩
 obtain ⟨C,e4⟩:=rowP z;obtain ⟨cm,u⟩:∃ cm,cm=msgC m:=⟨_,rfl⟩
 have J:cm.size=14:=by rw [u];rfl
 have U:=hI z;have b5:=hI u;rw [<-z] at E;rw [<-u] at V;have b3:∀ x y:Array Value,P=x->cm=y->Calls prog 3 #[.agg x,.agg y,.int .i64 t] w fun e n=>e=.returned (.bool true)/\Below w.heap.size w n:=by
  rintro _ _ rfl rfl;simp only [encP] at z;simp only [msgC] at u;rw [z,u];go_in;rw [<-z,<-u];clear z u;have F:=hI (BoxRM.init w P cm);have x1:=F.out.r.box C;have x2:=F.out.r.rowAt;have L:=F.out.m.box J;have M:=F.out.m.rowAt;cases g1
  .go_wp2_with (first
    | (go_at_call 6;refine (E.out _ F.out.r.b).mono ?_;rintro _ w1 ⟨rfl,f⟩;have l:=hI (F.out.next f);clear f x1 x2 L M)
    | (go_at_call 8;refine (AW.out _).mono ?_;rintro _ w2 ⟨rfl,f⟩;have j:=hI (l.out.next f);clear f))
   go_ret;exact ⟨rfl,j.out.r.b⟩
  have FP:=hI (qwr.1 d4.out);cases g2
  .go_wp2_with (first
    | (go_at_call 6;refine (E.out _ F.out.r.b).mono ?_;rintro _ w1 ⟨rfl,f⟩;have l:=hI (F.out.next f);clear f x1 x2 L M;have L:=l.out.m.box J;have M:=l.out.m.rowAt)
    | (go_at_call 7;refine (V.out _).mono ?_;rintro _ w2 ⟨rfl,f⟩;have j:=hI (l.out.next f);clear f L M)
    | (go_at_call 8;refine (AW.out _).mono ?_;rintro _ w3 ⟨rfl,f⟩;have A:=hI (j.out.next f);clear f))
   go_ret;exact ⟨rfl,A.out.r.b⟩
  have HM:=hI (fewM_rd d5.out a4.out.1 a4.out.2);have d8:Hid (∀ W,Below w.heap.size w W->Calls prog 9 #[.agg P,.agg cm] W fun e n=>(∃ (s:RP) (c:Array Value),e=.returned (.tuple #[.agg c,.slice none 0 0])/\c=(encP s).toArray/\OnPrR r m s/\SepR r W.heap.size n s)/\Below W.heap.size W n):=fun W f=>onPrL (qrg r m W (HR.out.below f) (HM.out.next f) FP.out) U.out b5.out
  have d9:Hid (∀ W,Below w.heap.size w W->Calls prog 10 #[.agg P,.agg cm] W fun e n=>(∃ (s:RP) (c:Array Value),e=.returned (.tuple #[.agg c,.slice none 0 0])/\c=(encP s).toArray/\OnPrR r m s/\SepR r W.heap.size n s)/\Below W.heap.size W n):=fun W f=>onPrL (dOnPr_any r m W (HR.out.below f) (HM.out.next f) FP.out) U.out b5.out
  have d6:Hid (∀ W,Below w.heap.size w W->Calls prog 13 #[.agg P,.int .i64 t] W fun e n=>(∃ (s:RP) (c:Array Value),e=.returned (.agg c)/\c=(encP s).toArray/\FrontR r t s/\SepR r W.heap.size n s)/\Below W.heap.size W n):=fun W f=>frontL (qpe r t W (HR.out.below f) FP.out.c) U.out
  have d7:Hid (∀ W,Below w.heap.size w W->Calls prog 14 #[.agg P,.int .i64 t] W fun e n=>(∃ (s:RP) (c:Array Value),e=.returned (.agg c)/\c=(encP s).toArray/\FrontR r t s/\SepR r W.heap.size n s)/\Below W.heap.size W n):=fun W f=>frontL (zbk r t W (HR.out.below f) FP.out.c) U.out
  go_upto_region 4 with (first
   | (go_at_call 6;refine (E.out _ F.out.r.b).mono ?_;rintro _ w1 ⟨rfl,f⟩;have l:=hI (F.out.next f);clear f x1 x2 L M;have L:=l.out.m.box J;have M:=l.out.m.rowAt)
   | (go_at_call 7;refine (V.out _).mono ?_;rintro _ w2 ⟨rfl,f⟩;have j:=hI (l.out.next f);clear f L M;have x1:=j.out.r.box C;have x2:=j.out.r.rowAt;have L:=j.out.m.box J;have M:=j.out.m.rowAt)
   | (go_at_call 9;refine (d8.out _ j.out.r.b).mono ?_;rintro _ w3 ⟨⟨a,ca,rfl,a9,ha,I⟩,f⟩;have A:=hI (j.out.next f);have HA:=hI ha;have b8:=hI I;have d0:=hI a9;obtain ⟨c6,e2⟩:=rowP a9;clear f ha I a9 x1 x2 L M))
  have a5:=hI ((b8.out.rd (HR.out.below A.out.r.b)).below (bel1 w3 (.cells ca 35)));have R:Hid (BoxG w w3.heap.size ca 35 (w3.alloc (.cells ca 35))):=hI ⟨A.out.r.b.trans ((bel1 w3 _).mono A.out.r.b.size),vaw w3 _⟩;have o:=hI (A.out.next (bel1 w3 (.cells ca 35)));obtain ⟨w4,c8⟩:∃ W,W=w3.alloc (.cells ca 35):=⟨_,rfl⟩
  obtain ⟨N7,c0⟩:∃ N,w3.heap.size=N:=⟨_,rfl⟩
  rw [<-c8] at a5 R o |-
  rw [c0] at R |-
  clear c8 c0 A b8 l j F;have x1:=o.out.r.box C;have x2:=o.out.r.rowAt;have L:=o.out.m.box J;have M:=o.out.m.rowAt;go_upto_region 5 with (go_at_call 10;refine (d9.out _ o.out.r.b).mono ?_;rintro _ Q ⟨⟨b,O,rfl,b0,ha,I⟩,f⟩;have G:=hI (o.out.next f);have a1:=hI (R.out.next f);have a2:=hI (a5.out.below f);have HB:=hI ha;have b9:=hI I;have d1:=hI b0;obtain ⟨c7,e3⟩:=rowP b0;clear f ha I b0 x1 x2 L M)
  have b7:=hI ((b9.out.rd (HR.out.below G.out.r.b)).below (bel1 Q (.cells O 35)));have a3:=hI (a2.out.below (bel1 Q (.cells O 35)));have T:Hid (BoxG w Q.heap.size O 35 (Q.alloc (.cells O 35))):=hI ⟨G.out.r.b.trans ((bel1 Q _).mono G.out.r.b.size),vaw Q _⟩;have D:=hI (a1.out.next (bel1 Q (.cells O 35)));have p:=hI (G.out.next (bel1 Q (.cells O 35)));obtain ⟨B,c9⟩:∃ W,W=Q.alloc (.cells O 35):=⟨_,rfl⟩
  obtain ⟨N9,c1⟩:∃ N,Q.heap.size=N:=⟨_,rfl⟩
  rw [<-c9] at b7 a3 T D p |-
  rw [c1] at T |-
  clear c9 c1 G b9 o R a1 a5 a2;have X:Hid (∀ W,Below B.heap.size B W->qdd W w.heap.size 18=true/\rowAt W w.heap.size=P/\qdd W N7 18=true/\rowAt W N7=ca/\qdd W N9 18=true/\rowAt W N9=O):=fun W f=>⟨(p.out.next f).r.box C,(p.out.next f).r.rowAt,(D.out.next f).box c6,(D.out.next f).rowAt,(T.out.next f).box c7,(T.out.next f).rowAt⟩
  refine qct (S:=fun W=>qdd W w.heap.size 18=true/\rowAt W w.heap.size=P/\qdd W N7 18=true/\rowAt W N7=ca/\qdd W N9 18=true/\rowAt W N9=O) jk ?_;have Y:Below B.heap.size B B.drew:=(vag _ _).drew;have k:=X.out _ Y;refine qht (some 32) (i:=0) (v:=.agg ca) rfl rfl jk jk jk (fun _ _ _ h=>h) (Or.inl ⟨by rfl,fun W H=>qeq rfl H.2.2.1 H.2.2.2.1⟩) k ?_;simp only [Act.put,sA,s0,s1];refine qht (some 33) (i:=1) (v:=.agg O) rfl rfl jk jk jk (fun _ _ _ h=>h) (Or.inl ⟨by rfl,fun W H=>qeq rfl H.2.2.2.2.1 H.2.2.2.2.2⟩) k ?_;simp only [Act.put,sA,s0,s1];refine rdy1 2 rfl (fun K q=>?_);go_simp;refine (sameL d0.out d1.out (a3.out.below Y) (b7.out.below Y) (HA.out.good FP.out).1 (HB.out.good FP.out).1 (HA.out.uniq HB.out)).mono ?_;rintro _ w7 ⟨rfl,f⟩;have Z:Below B.heap.size B w7:=qaa Y f;refine q.out _ _ (X.out _ Z) (fun _=>?_);clear q K k f;have k:=X.out _ Z;refine tkG 35 3 k ?_ (ha:=tzq);refine tkG 36 4 k ?_ (ha:=tzq);refine tkG 37 5 k ?_ (ha:=tzq);refine rdy1 6 rfl (fun K q=>?_);go_simp;refine (qpn _).mono ?_;rintro _ _ ⟨rfl,rfl⟩;refine q.out _ _ k (fun _=>?_);clear q K;refine tkG 39 7 k ?_ (ha:=tzq);refine tkG 40 8 k ?_ (ha:=tzq);refine qht (some 41) (i:=9) (v:=.agg P) rfl rfl jk jk jk (fun _ _ _ h=>h) (Or.inl ⟨by rfl,fun W H=>qeq rfl H.1 H.2.1⟩) k ?_;simp only [Act.put,sA,s0,s1];refine tkG 42 10 k ?_ (ha:=tzq);refine qht (some 44) (i:=12) (v:=.agg P) rfl rfl jk jk jk (fun _ _ _ h=>h) (Or.inl ⟨by rfl,fun W H=>qeq rfl H.1 H.2.1⟩) k ?_;simp only [Act.put,sA,s0,s1];refine tkG 45 13 k ?_ (ha:=tzq);refine rdy1 11 rfl (fun K q=>?_);go_simp;refine (d6.out _ (qaa p.out.r.b Z)).mono ?_;rintro _ w8 ⟨⟨c,cc,rfl,c2,hc,c4⟩,f⟩;have d2:=hI c2;have b4:=hI hc;have e0:=hI c4;clear c2 hc c4;have a6:Below B.heap.size B w8:=qaa Z f;refine q.out _ _ (X.out _ a6) (fun _=>?_);clear q K k f;refine rdy1 14 rfl (fun K q=>?_);go_simp;refine (d7.out _ (qaa p.out.r.b a6)).mono ?_;rintro _ w9 ⟨⟨d,cd,rfl,c3,hd,c5⟩,f⟩;have d3:=hI c3;have b6:=hI hd;have e1:=hI c5;clear c3 hd c5;have a0:Below B.heap.size B w9:=qaa a6 f;refine q.out _ _ (X.out _ a0) (fun _=>?_);clear q K;refine rdy1 15 rfl (fun K q=>?_);go_simp;refine (sameL d2.out d3.out ((e0.out.below f).rd (HR.out.below (qaa p.out.r.b a0))) (e1.out.rd (HR.out.below (qaa p.out.r.b a0))) (b4.out.good FP.out.c).1 (b6.out.good FP.out.c).1 (b4.out.uniq b6.out)).mono ?_;rintro _ e5 ⟨rfl,f⟩;have a7:Below B.heap.size B e5:=qaa a0 f;refine q.out _ _ (X.out _ a7) (fun _=>?_);clear q K f;have k:=X.out _ a7;refine tkG 48 16 k ?_ (ha:=tzq);refine tkG 49 17 k ?_ (ha:=tzq);refine rdy1 18 rfl (fun K q=>?_);go_simp;refine (AW.out _).mono ?_;rintro _ e6 ⟨rfl,f⟩;have a8:Below B.heap.size B e6:=qaa a7 f;refine q.out _ _ (X.out _ a8) (fun _=>?_);clear q K f k;have k:=X.out _ a8;refine tkG 51 19 k ?_ (ha:=tzq);refine tkG 6 20 k ?_ (ha:=tzq);refine qbw jk ?_ _;go_wp2;go_ret;exact ⟨rfl,qaa p.out.r.b a8⟩
 exact b3 _ _ z u
theorem q_new (a:Int) (h:a=1\/a=2) (W:World):Calls prog 23 #[.int .i64 3,.int .i64 1,.int .i64 a] W fun e b=>∃ (r:RP) (c:Array Value),e=.returned (.tuple #[.agg c,.int .i64 0])/\c=(encP r).toArray/\NewR 3 1 a 3 r/\RdP b r/\Below W.heap.size W b :=
 (zba 3 1 a W).mono fun e b ⟨⟨r,d,f,j⟩,g⟩=>by
   have i:newP 3 1 a:=by rcases h with rfl | rfl <;> decide
   rw [vam i] at d f;exact ⟨r,_,d,rfl,f,j,g⟩
theorem q_tick (r:RP) (cs:Array Value) (q:cs=(encP r).toArray) (h:NewR 3 1 1 3 r) (W:World) (I:RdP W r) :
 Calls prog 16 #[.agg cs] W fun e j=>∃ (l:Array Value) (b a c:Nat),e=.returned (.tuple #[.agg l,.slice (some ⟨b,a,none⟩) 2 c])/\l.size=18/\qfy l=true/\l[6]?=some (.int .i64 1)/\b < j.heap.size/\j.cell? ⟨b,a + 1,none⟩=some (.int .i64 10)/\j.cell? ⟨b,a + 15,none⟩=some (.int .i64 3)/\Below W.heap.size W j:=by
 subst q;obtain ⟨P,G⟩:=newG h (Or.inl rfl);refine (qtz (fun _ _ _ _=>True) r W I G.m' ?_ ?_).mono ?_
 .intro M N _ g o k t L i _
  rw [(tickN h g o).d] at i;exact absurd i (vci _)
 .intro M N _ g o k t L i J
  have u:=tickN h g o;rw [u.d] at i;obtain rfl:k=0:=Nat.le_zero.1 i;obtain ⟨rfl,rfl⟩:=J;exact ⟨u.c,u.f,vaj _⟩
 rintro e j ⟨⟨s,x,rfl,E,_,z⟩,F⟩;obtain ⟨K,m,H,n⟩:=zbh h E;have D:0 < x.z.size:=by rw [n];exact Nat.zero_lt_two
 have g:1 < x.z.size:=by rw [n];exact Nat.one_lt_two
 obtain ⟨b,a,y,p,f⟩:=z.rd.at_ D;obtain ⟨O,A,d,_,v⟩:=z.rd.at_ g;rw [y] at d;injection d with d
 injection d with e1 e2
 subst e1 e2;rw [n] at f v;obtain ⟨B,C⟩:=rowP (cs:=(encP s).toArray) rfl;refine ⟨_,b,a,x.c,by rw [y,show x.z.size=2 by rw [n];rfl],B,C,by rw [<-K];rfl,p,?_,?_,F⟩
 .have:=f 1 jd
  rw [show a + 0 * 15 + 1=a + 1 by omega] at this;rw [this,<-H];rfl
 have:=v 0 jd
 rw [show a + 1 * 15 + 0=a + 15 by omega] at this;rw [this];rfl
theorem q_prom (r:RP) (cs:Array Value) (c:cs=(encP r).toArray) (h:NewR 3 1 2 3 r) (A B:Option Addr) (a b:Nat) (W:World) (i:RdP W r) (n:RdM W (m29 A B a b)) :
 Calls prog 9 #[.agg cs,.agg #[.int .i64 10,.int .i64 1,.int .i64 0,.int .i64 0,.int .i64 0,.int .i64 0,.int .i64 0,.int .i64 0,.string ⟨#[]⟩,.int .i64 0,.int .i64 4,.slice A 1 a,.slice B 3 b,.int .i64 1]] W fun e d=>∃ (s:RP) (f:Array Value),e=.returned (.tuple #[.agg f,.slice none 0 0])/\f=(encP s).toArray/\FewC s/\qee s=#[2,0,0]/\s.fr.z=#[1,0,0]/\RdP d s/\Below W.heap.size W d:=by
 subst c;refine (qrg r (m29 A B a b) W i n (newG h (Or.inr rfl)).2).mono ?_;rintro e d ⟨⟨s,rfl,m,o⟩,g⟩;obtain ⟨_,j,k,l⟩:=zbi h m;exact ⟨s,_,rfl,rfl,j,k,l,o.rd (i.below g),g⟩
theorem q_front (r:RP) (cs:Array Value) (k:cs=(encP r).toArray) (h:NewR 3 1 1 3 r) (W:World) (n:RdP W r) :
 Calls prog 13 #[.agg cs,.int .i64 5] W fun e g=>∃ (d:Array Value) (b a c:Nat),e=.returned (.agg d)/\d.size=18/\qfy d=true/\d[11]?=some (.slice (some ⟨b,a,none⟩) 3 c)/\b < g.heap.size/\g.cell? ⟨b,a,none⟩=some (.int .i64 5)/\Below W.heap.size W g:=by
 subst k;refine (qpe r 5 W n (newG h (Or.inl rfl)).2.c).mono ?_;rintro e g ⟨⟨s,rfl,t,u⟩,m⟩;have l:=qvv h t;obtain ⟨b,a,q,j,f⟩:=(u.rd (n.below m)).fr.rd.at_ (i:=0) (by rw [l];decide);obtain ⟨o,p⟩:=rowP (cs:=(encP s).toArray) rfl;refine ⟨_,b,a,s.fr.c,rfl,o,p,?_,j,?_,m⟩
 .show some (Value.slice s.fr.A s.fr.z.size s.fr.c)=_
  rw [q,l];rfl
 rw [l] at f;exact f
theorem q_due (r:RP) (A:Option Addr) (c:Nat) (g:Array Value) (b:g=(encP (c29 r A c)).toArray) (h:NewR 3 1 1 3 r) (W:World) (k:RdP W (c29 r A c)) :
 Calls prog 25 #[.agg g] W fun e a=>∃ (B:Option Addr) (d:Nat),e=.returned (.slice B 1 d)/\RdI_R a.heap.size a B #[11]/\Below W.heap.size W a:=by
 subst b;refine (due_any _ W k (qnt h A c).2).mono ?_;rintro e a ⟨⟨v,rfl,i⟩,j⟩;rw [c29_due h] at i;obtain ⟨y,rfl,n,m⟩:=qcf (l:=[11]) i;obtain ⟨B,d,z⟩:=y;have f:z=#[11]:=n;subst f;exact ⟨B,d,rfl,m.rd,j⟩
theorem q_aged (r:RP) (A:Option Addr) (c:Nat) (k:Array Value) (g:k=(encP (c29 r A c)).toArray) (h:NewR 3 1 1 3 r) (W:World) (n:RdP W (c29 r A c)) :
 Calls prog 26 #[.agg k] W fun e j=>∃ (s:RP) (b a d:Nat),e=.returned (.agg #[.int .i64 s.n,.int .i64 s.f,.int .i64 s.self,.int .i64 s.clock,.int .i64 s.seq,.int .i64 s.floor,.int .i64 s.ticks,.slice (some ⟨b,a,none⟩) 2 d,.slice s.o.A s.o.z.size s.o.c,.slice s.k.A s.k.z.size s.k.c,.slice s.m.A s.m.z.size s.m.c,.slice s.fr.A s.fr.z.size s.fr.c,.slice s.d.A s.d.z.size s.d.c,.int .i64 s.lt,.int .i64 s.lid,.int .i64 s.count,.slice s.it.A s.it.z.size s.it.c,.slice s.ss.A s.ss.z.size s.ss.c])/\j.cell? ⟨b,a + 10 + 7,none⟩=some (.int .i64 6)/\Below W.heap.size W j:=by
 subst g;refine (qwu _ W n (qnt h A c).2).mono ?_;rintro e j ⟨⟨s,rfl,p,u⟩,m⟩;obtain ⟨l,o⟩:=c29_age h p;obtain ⟨b,a,q,t,f⟩:=(u.rd (n.below m)).e.rd.at_ (i:=1) (by rw [l];decide);refine ⟨s,b,a,s.e.c,?_,?_,m⟩
 .simp only [encP]
  rw [q,l]
 have:=f 7 jd
 rw [show a + 1 * 10 + 7=a + 10 + 7 by omega] at this;rw [this,<-o];rfl
theorem q_tell (r:RP) (A:Option Addr) (c:Nat) (b:Array Value) (a:b=(encP (c29 r A c)).toArray) (h:NewR 3 1 1 3 r) (W:World) (m:RdP W (c29 r A c)) :
 Calls prog 27 #[.agg b] W fun e f=>∃ (B:Option Addr) (d:Nat),e=.returned (.slice B 6 d)/\Below W.heap.size W f:=by
 subst a;obtain ⟨i,j⟩:=qnt h A c;refine (qsc _ W m j i).mono ?_;rintro e f ⟨⟨x,n,rfl,k⟩,l⟩;have g:x.z.size=6:=by rw [k.1];exact c29_tell h A c n
 exact ⟨x.A,x.c,by rw [g],l⟩
theorem q_prms (r:RP) (cs:Array Value) (a:cs=(encP r).toArray) (h:NewR 3 1 1 3 r) (W:World) (i:RdP W r) :
 Calls prog 28 #[.agg cs] W fun e b=>∃ m:PM,e=.returned (.agg #[.int .i64 10,.int .i64 m.fr,.int .i64 m.id,.int .i64 m.t,.int .i64 m.bal,.int .i64 m.abal,.int .i64 m.ph,.int .i64 m.q,.string m.pay,.int .i64 m.lo,.int .i64 m.hi,.slice m.aA m.ats.size m.aC,.slice m.mA m.mks.size m.mC,.int .i64 m.dn])/\Below W.heap.size W b:=by
 subst a;obtain ⟨d,f⟩:=newG h (Or.inl rfl);refine (qjw r W i f.c d).mono ?_;rintro e b ⟨⟨m,rfl,g,_⟩,c⟩;refine ⟨m,?_,c⟩;rw [<-g.h.1];rfl
theorem qih {w W:World} (h:Below w.heap.size w W) (cs:Array Value) (t:TypeId):BoxG w W.heap.size cs t (W.alloc (.cells cs t)):=⟨qab h _,vaw W _⟩
theorem m29_rd (w:World) (T a:TypeId):RdM ((w.alloc (.cells #[.int .i64 3,.int .i64 11] T)).alloc (.cells #[.int .i64 4,.int .i64 0,.int .i64 0] a)) (m29 (some ⟨w.heap.size,0,none⟩) (some ⟨w.heap.size + 1,0,none⟩) 1 3):=by
 have b:((w.alloc (.cells #[.int .i64 3,.int .i64 11] T)).alloc (.cells #[.int .i64 4,.int .i64 0,.int .i64 0] a)).heap[w.heap.size]?=some (.cells #[.int .i64 3,.int .i64 11] T (0,0)):=((bel1 (w.alloc (.cells #[.int .i64 3,.int .i64 11] T)) _).block _ js).trans (vaw w _);have c:((w.alloc (.cells #[.int .i64 3,.int .i64 11] T)).alloc (.cells #[.int .i64 4,.int .i64 0,.int .i64 0] a)).heap[w.heap.size + 1]?=some (.cells #[.int .i64 4,.int .i64 0,.int .i64 0] a (0,0)):=veh w _ _;refine ⟨fun _=>⟨w.heap.size,0,rfl,qbi b,fun t d=>?_⟩,fun _=>⟨w.heap.size + 1,0,rfl,qbi c,fun i e=>?_⟩,by show 1<=1000000;decide,by show 3<=1000000;decide,by show 0<=1000000;decide⟩
 .have g:t < 2:=d
  rw [vcc,vas _ _ t _ _ (0,0) b];rcases (show t=0\/t=1 by omega) with rfl | rfl <;> rw [get_flatK _ _ _ _ d] <;> rfl
 have f:i < 3:=e;rw [vcc,vas _ _ i _ _ (0,0) c];rcases (show i=0\/i=1\/i=2 by omega) with rfl | rfl | rfl <;> rfl
theorem fld_rep7 (j k l m n o p i q r a b c d e f g h:Value) (W:World):(Instr.field 35 (.agg #[j,k,l,m,n,o,p,i,q,r,a,b,c,d,e,f,g,h]) 7).run prog W=.ok i W:=by kernel_rfl
theorem fld_msg0 (e f g h i j k l m n a b c d:Value) (W:World):(Instr.field 37 (.agg #[e,f,g,h,i,j,k,l,m,n,a,b,c,d]) 0).run prog W=.ok e W:=by kernel_rfl
theorem c29_rd {r:RP} {W:World} {n:Nat} {T:TypeId} (a:RdP W r) (h:W.heap[n]?=some (.cells #[.int .i64 11,.int .i64 1,.int .i64 3,.int .i64 0,.int .i64 0,.int .i64 0,.int .i64 0,.int .i64 6,.string ⟨#[]⟩,.slice none 0 0,.int .i64 21,.int .i64 1,.int .i64 3,.int .i64 0,.int .i64 0,.int .i64 0,.int .i64 0,.int .i64 5,.string ⟨#[]⟩,.slice none 0 0] T (0,0))):RdP W (c29 r (some ⟨n,0,none⟩) 2):=by
 have d:(#[.int .i64 11,.int .i64 1,.int .i64 3,.int .i64 0,.int .i64 0,.int .i64 0,.int .i64 0,.int .i64 6,.string ⟨#[]⟩,.slice none 0 0,.int .i64 21,.int .i64 1,.int .i64 3,.int .i64 0,.int .i64 0,.int .i64 0,.int .i64 0,.int .i64 5,.string ⟨#[]⟩,.slice none 0 0]:Array Value)=flatK encE 10 #[e11,e21]:=by kernel_rfl
 rw [d] at h;refine ⟨⟨fun _=>⟨n,0,rfl,qbi h,fun t g=>?_⟩,fun i e=>?_⟩,a.o,a.k,a.kk,a.m,a.mm,a.fr,a.d,a.dd,a.it,a.ss⟩
 .have b:t < (flatK encE 10 #[e11,e21]).size:=by rw [size_flatK];exact g
  rw [vcc,vas _ _ t _ _ (0,0) h,vbe b];show _=some (flatK encE 10 #[e11,e21])[t]!;rw [vae _ t b]
 have f:i < 2:=e;rcases (show i=0\/i=1 by omega) with rfl | rfl <;> exact ⟨fun c=>absurd c (Nat.lt_irrefl 0),vaj _⟩
theorem aw29_any (w:World):Calls prog 8 #[] w fun e w'=>e=.returned (.bool true)/\Below w.heap.size w w':=by
 have l8:=fld_rep7;have l9:=fld_msg0;go_in;go_wp2_with fail;refine (q_new 1 (Or.inl rfl) _).mono ?_;rintro _ w1 ⟨r,cs,rfl,g8,hn,hr,j3⟩;obtain ⟨b8,m0⟩:=rowP g8;have HN:=hI hn;have N:=hI g8;have HX:=hI (qih j3 cs 35);have HR:=hI (hr.below (bel1 w1 (.cells cs 35)));clear j3 hr hn g8;have y:=HX.out.box b8;have z:=HX.out.rowAt;go_wp2_with fail;refine (q_tick r cs N.out HN.out _ HR.out).mono ?_;rintro _ w2 ⟨ca,ba,oa,na,rfl,m1,l3,h6,g5,f1,j0,a⟩;have b3:=hI ((HX.out.next a).next (bel1 w2 (.cells ca 35)));have f5:=hI ((HR.out.below a).below (bel1 w2 (.cells ca 35)));have HA:=hI (qih (qaa HX.out.b a) ca 35);have f4:Hid ((w2.alloc (.cells ca 35)).cell? ⟨ba,oa + 1,none⟩=some (.int .i64 10)):=((bel1 w2 (.cells ca 35)).cell (p:=⟨ba,oa + 1,none⟩) g5).trans f1;have h:Hid ((w2.alloc (.cells ca 35)).cell? ⟨ba,oa + 15,none⟩=some (.int .i64 3)):=((bel1 w2 (.cells ca 35)).cell (p:=⟨ba,oa + 15,none⟩) g5).trans j0;have H6:=hI h6;clear a f1 j0 g5 h6 HX HR y z;go_upto_region 3 with fail
 obtain ⟨w3,k8⟩:∃ W,W=w2.alloc (.cells ca 35):=⟨_,rfl⟩
 rw [<-k8] at b3 f5 HA f4 h |-
 clear k8;have y1:=f4.out;have y2:=h.out;have y3:=HA.out.at_ 6 H6.out;go_upto_region 5 with fail
 clear y1 y2 y3 HA f4 h H6;go_wp2_with fail;refine (q_new 2 (Or.inr rfl) _).mono ?_;rintro _ w4 ⟨r2,c2,rfl,g7,k3,k4,a⟩;obtain ⟨k6,l2⟩:=rowP g7;have i3:=hI k3;have h4:=hI g7;have b4:=hI ((b3.out.next a).next (bel1 w4 (.cells c2 35)));have f8:=hI ((f5.out.below a).below (bel1 w4 (.cells c2 35)));have b1:=hI (qih (qaa b3.out.b a) c2 35);have g1:=hI (k4.below (bel1 w4 (.cells c2 35)));clear a g7 k3 k4 b3 f5;go_upto_region 6 with fail
 obtain ⟨w5,k9⟩:∃ W,W=w4.alloc (.cells c2 35):=⟨_,rfl⟩
 rw [<-k9] at b4 f8 b1 g1 |-
 clear k9;have y:=b1.out.box k6;have z:=b1.out.rowAt;have i1:=hI (m29_rd w5 29 3);have V:Hid (Below w5.heap.size w5 ((w5.alloc (.cells #[.int .i64 3,.int .i64 11] 29)).alloc (.cells #[.int .i64 4,.int .i64 0,.int .i64 0] 3))):=qab (bel1 w5 _) _;go_wp2_with fail;refine (q_prom r2 c2 h4.out i3.out (some ⟨w5.heap.size,0,none⟩) (some ⟨w5.heap.size + 1,0,none⟩) 1 3 _ (g1.out.below V.out) i1.out).mono ?_;rintro _ w6 ⟨s,cb,rfl,b5,k0,k2,b7,h0,a⟩;obtain ⟨k7,l4⟩:=rowP b5;obtain ⟨bf,u,hA,j6,ff⟩:=h0.fr.rd.at_ (i:=0) (by rw [b7];exact Nat.zero_lt_succ _);have a7:cb[11]?=some (.slice (some ⟨bf,u,none⟩) 3 s.fr.c):=by
  rw [b5];show some (Value.slice s.fr.A s.fr.z.size s.fr.c)=_;rw [hA,b7];rfl
 have j9:w6.cell? ⟨bf,u,none⟩=some (.int .i64 1):=by rw [b7] at ff;exact ff
 have g4:=hI (((b4.out.next V.out).next a).next (bel1 w6 (.cells cb 35)));have f9:=hI (((f8.out.below V.out).below a).below (bel1 w6 (.cells cb 35)));have X:=hI (qih (qaa (qaa b4.out.b V.out) a) cb 35);have g3:=hI (h0.below (bel1 w6 (.cells cb 35)));have f3:Hid ((w6.alloc (.cells cb 35)).cell? ⟨bf,u,none⟩=some (.int .i64 1)):=((bel1 w6 (.cells cb 35)).cell (p:=⟨bf,u,none⟩) j6).trans j9;have M:bf < (w6.alloc (.cells cb 35)).heap.size:=by simp;omega
 have b0:=hI a7;have h5:=hI b5;have h9:=hI k0;have i2:=hI k2;clear a b5 k0 k2 b7 h0 hA ff a7 j9 j6 y z i1 V b4 f8 b1 g1 i3 h4;go_upto_region 7 with fail
 obtain ⟨w7,l0⟩:∃ W,W=w6.alloc (.cells cb 35):=⟨_,rfl⟩
 rw [<-l0] at g4 f9 X g3 f3 M |-
 clear l0;have y:=X.out.box k7;have z:=X.out.rowAt;go_wp2_with fail;refine (pr_marks s cb h5.out h9.out #[2,0,0] i2.out _ g3.out).mono ?_;rintro _ w8 ⟨A8,c8,rfl,k5,O⟩;have i9:=hI (g4.out.next O);have i5:=hI (f9.out.below O);have c0:=hI (X.out.next O);have h8:Hid (w8.cell? ⟨bf,u,none⟩=some (.int .i64 1)):=(O.cell (p:=⟨bf,u,none⟩) M).trans f3.out;have j7:bf < w8.heap.size:=vad M O.size;have i7:=hI (sameLit w8 A8 c8 #[2,0,0] #[.int .i64 2,.int .i64 0,.int .i64 0] k5 (by simp [qdq]) jd);clear O k5 y z g4 f9 X g3 f3 M;go_wp2_with fail;refine i7.out.mono ?_;rintro _ R ⟨rfl,j4⟩;have t:Below w8.heap.size w8 R:=qaa (bel1 w8 (.cells #[.int .i64 2,.int .i64 0,.int .i64 0] 3)) j4;have C:=hI (i9.out.next t);have g0:=hI (i5.out.below t);have c1:=hI (c0.out.next t);have y1:=c1.out.at_ 11 b0.out;have y2:R.cell? ⟨bf,u,none⟩=some (.int .i64 1):=(t.cell (p:=⟨bf,u,none⟩) j7).trans h8.out;have y:=C.out.box b8;have z:=C.out.rowAt;clear j4 t i7 i9 i5 c0 h8;go_upto_region 10 with fail
 clear y1 y2 y z c1 h5 h9 i2 b0;have c:=hI (qih C.out.b cs 35);have a4:=hI (C.out.next (bel1 R (.cells cs 35)));have i4:=hI (g0.out.below (bel1 R (.cells cs 35)));have P:w.heap.size<=R.heap.size:=C.out.b.size;have e5:w1.heap.size < R.heap.size:=C.out.lt;obtain ⟨D,hg⟩:∃ g,R.heap.size=g:=⟨_,rfl⟩
 obtain ⟨h1,a9⟩:∃ W,W=R.alloc (.cells cs 35):=⟨_,rfl⟩
 rw [<-a9] at c a4 i4 |-
 have b9:Hid (Below D R h1):=by show Below _ _ _;rw [a9,<-hg];exact bel1 R _
 rw [hg] at c P e5 |-
 have i0:Hid (R.heap.size=D):=hg;clear a9 hg C;have c6:=c.out.at_ 6 (v:=.int .i64 r.ticks) (by rw [N.out];rfl);have f6:=c.out.froz 6;go_upto_region 11 with fail
 have f:=hI (c.out.set P 6 (.int .i64 24));have a5:=hI (a4.out.far (g2:=D) P jo 6 (.int .i64 24));have T:Hid (Below D R (h1.setCell ⟨D,6,none⟩ (.int .i64 24))):=b9.out.setCell (p:=⟨D,6,none⟩) (vaa _) _;obtain ⟨b,e8⟩:∃ W,W=h1.setCell ⟨D,6,none⟩ (.int .i64 24):=⟨_,rfl⟩
 rw [<-e8] at f a5 T |-
 clear e8 c6 f6 c a4 b9;have c7:=f.out.at_ 7 (v:=.slice r.e.A r.e.z.size r.e.c) (by rw [N.out];rfl);have f7:=f.out.froz 7;have k1:=f.out.lt;go_upto_region 12 with fail
 have l:=hI ((f.out.set P 7 (.slice (some ⟨b.heap.size,0,none⟩) 2 2)).next (bel1 _ (.cells #[.int .i64 11,.int .i64 1,.int .i64 3,.int .i64 0,.int .i64 0,.int .i64 0,.int .i64 0,.int .i64 6,.string ⟨#[]⟩,.slice none 0 0,.int .i64 21,.int .i64 1,.int .i64 3,.int .i64 0,.int .i64 0,.int .i64 0,.int .i64 0,.int .i64 5,.string ⟨#[]⟩,.slice none 0 0] 58)));have j:=hI ((a5.out.far (g2:=D) P jo 7 (.slice (some ⟨b.heap.size,0,none⟩) 2 2)).next (bel1 _ (.cells #[.int .i64 11,.int .i64 1,.int .i64 3,.int .i64 0,.int .i64 0,.int .i64 0,.int .i64 0,.int .i64 6,.string ⟨#[]⟩,.slice none 0 0,.int .i64 21,.int .i64 1,.int .i64 3,.int .i64 0,.int .i64 0,.int .i64 0,.int .i64 0,.int .i64 5,.string ⟨#[]⟩,.slice none 0 0] 58)));have U:Hid (Below D R ((b.setCell ⟨D,7,none⟩ (.slice (some ⟨b.heap.size,0,none⟩) 2 2)).alloc (.cells #[.int .i64 11,.int .i64 1,.int .i64 3,.int .i64 0,.int .i64 0,.int .i64 0,.int .i64 0,.int .i64 6,.string ⟨#[]⟩,.slice none 0 0,.int .i64 21,.int .i64 1,.int .i64 3,.int .i64 0,.int .i64 0,.int .i64 0,.int .i64 0,.int .i64 5,.string ⟨#[]⟩,.slice none 0 0] 58))):=(T.out.setCell (p:=⟨D,7,none⟩) (vaa _) _).alloc jso _;have I:Hid (((b.setCell ⟨D,7,none⟩ (.slice (some ⟨b.heap.size,0,none⟩) 2 2)).alloc (.cells #[.int .i64 11,.int .i64 1,.int .i64 3,.int .i64 0,.int .i64 0,.int .i64 0,.int .i64 0,.int .i64 6,.string ⟨#[]⟩,.slice none 0 0,.int .i64 21,.int .i64 1,.int .i64 3,.int .i64 0,.int .i64 0,.int .i64 0,.int .i64 0,.int .i64 5,.string ⟨#[]⟩,.slice none 0 0] 58)).heap[b.heap.size]?=some (.cells #[.int .i64 11,.int .i64 1,.int .i64 3,.int .i64 0,.int .i64 0,.int .i64 0,.int .i64 0,.int .i64 6,.string ⟨#[]⟩,.slice none 0 0,.int .i64 21,.int .i64 1,.int .i64 3,.int .i64 0,.int .i64 0,.int .i64 0,.int .i64 0,.int .i64 5,.string ⟨#[]⟩,.slice none 0 0] 58 (0,0))):=by
  have:=vaw (b.setCell ⟨D,7,none⟩ (.slice (some ⟨b.heap.size,0,none⟩) 2 2)) (.cells #[.int .i64 11,.int .i64 1,.int .i64 3,.int .i64 0,.int .i64 0,.int .i64 0,.int .i64 0,.int .i64 6,.string ⟨#[]⟩,.slice none 0 0,.int .i64 21,.int .i64 1,.int .i64 3,.int .i64 0,.int .i64 0,.int .i64 0,.int .i64 0,.int .i64 5,.string ⟨#[]⟩,.slice none 0 0] 58)
  rwa [show (b.setCell ⟨D,7,none⟩ (.slice (some ⟨b.heap.size,0,none⟩) 2 2)).heap.size=b.heap.size by simp] at this
 obtain ⟨m3,e9⟩:∃ W,W=(b.setCell ⟨D,7,none⟩ (.slice (some ⟨b.heap.size,0,none⟩) 2 2)).alloc (.cells #[.int .i64 11,.int .i64 1,.int .i64 3,.int .i64 0,.int .i64 0,.int .i64 0,.int .i64 0,.int .i64 6,.string ⟨#[]⟩,.slice none 0 0,.int .i64 21,.int .i64 1,.int .i64 3,.int .i64 0,.int .i64 0,.int .i64 0,.int .i64 0,.int .i64 5,.string ⟨#[]⟩,.slice none 0 0] 58):=⟨_,rfl⟩
 rw [<-e9] at l j U I |-
 clear e9 c7 f7 k1 f a5 T;obtain ⟨n,hn⟩:∃ n,b.heap.size=n:=⟨_,rfl⟩
 rw [hn] at l I |-
 clear hn;obtain ⟨cc,b6⟩:∃ cc,cc=(encP (c29 r (some ⟨n,0,none⟩) 2)).toArray:=⟨_,rfl⟩
 have e7:(cs.setIfInBounds 6 (.int .i64 24)).setIfInBounds 7 (.slice (some ⟨n,0,none⟩) 2 2)=cc:=by rw [N.out,b6];rfl
 rw [e7] at l;obtain ⟨a8,l5⟩:=rowP b6;have f2:=hI b6;have J:=hI (g0.out.below (by rw [i0.out];exact U.out));have i6:=hI (c29_rd J.out I.out);have y:=j.out.box b8;have z:=j.out.rowAt;clear e7 b6 g0 i0 U I P e5;go_wp2_with fail;refine (q_front r cs N.out HN.out _ J.out).mono ?_;rintro _ x ⟨cd,q,S,nd,rfl,m2,l6,a7,j5,j8,a⟩;have a6:=hI ((j.out.next a).next (bel1 x (.cells cd 35)));have o:=hI ((l.out.next a).next (bel1 x (.cells cd 35)));have a1:=hI ((J.out.below a).below (bel1 x (.cells cd 35)));have k:=hI ((i6.out.below a).below (bel1 x (.cells cd 35)));have Z:=hI (qih (qaa j.out.b a) cd 35);have a0:Hid ((x.alloc (.cells cd 35)).cell? ⟨q,S,none⟩=some (.int .i64 5)):=((bel1 x (.cells cd 35)).cell (p:=⟨q,S,none⟩) j5).trans j8;have L:q < (x.alloc (.cells cd 35)).heap.size:=by simp;omega
 have b0:=hI a7;clear a a7 j8 j5 y z j l J i6;go_upto_region 13 with fail
 obtain ⟨m4,f0⟩:∃ W,W=x.alloc (.cells cd 35):=⟨_,rfl⟩
 rw [<-f0] at a6 o a1 k Z a0 L |-
 clear f0;have y:=o.out.box a8;have z:=o.out.rowAt;go_wp2_with fail;refine (q_due r _ _ cc f2.out HN.out _ k.out).mono ?_;rintro _ Q ⟨B,d,rfl,e6,a⟩;have e0:=hI (sameLit Q B d #[11] #[.int .i64 11] e6 (by simp [qdq]) jd);have e1:=hI (a6.out.next a);have c3:=hI (o.out.next a);have d6:=hI (a1.out.below a);have a2:=hI (k.out.below a);have c4:=hI (Z.out.next a);have h:Hid (Q.cell? ⟨q,S,none⟩=some (.int .i64 5)):=(a.cell (p:=⟨q,S,none⟩) L).trans a0.out;have E:q < Q.heap.size:=vad L a.size;clear a e6 y z a6 o a1 k Z a0 L;go_wp2_with fail;refine e0.out.mono ?_;rintro _ h2 ⟨rfl,e4⟩;have a:Below Q.heap.size Q h2:=qaa (bel1 Q (.cells #[.int .i64 11] 3)) e4;have e2:=hI (e1.out.next a);have H:=hI (c3.out.next a);have d7:=hI (d6.out.below a);have A:=hI (a2.out.below a);have c5:=hI (c4.out.next a);have d1:Hid (h2.cell? ⟨q,S,none⟩=some (.int .i64 5)):=(a.cell (p:=⟨q,S,none⟩) E).trans h.out;have F:q < h2.heap.size:=vad E a.size;clear a e4 e0 e1 c3 d6 a2 c4 h E;have y:=H.out.box a8;have z:=H.out.rowAt;go_wp2_with fail;refine (q_aged r _ _ cc f2.out HN.out _ A.out).mono ?_;rintro _ h3 ⟨s2,b2,o2,d2,rfl,j1,a⟩;have j2:h3.cell? ⟨b2,o2 + 17,none⟩=some (.int .i64 6):=j1;have e3:=hI (e2.out.next a);have Y:=hI (H.out.next a);have d8:=hI (d7.out.below a);have a3:=hI (A.out.below a);have c9:=hI (c5.out.next a);have d4:Hid (h3.cell? ⟨q,S,none⟩=some (.int .i64 5)):=(a.cell (p:=⟨q,S,none⟩) F).trans d1.out;have G:q < h3.heap.size:=vad F a.size;clear a y z e2 H d7 A c5 d1 F;have y:=Y.out.box a8;have z:=Y.out.rowAt;go_wp2_with fail;refine (q_tell r _ _ cc f2.out HN.out _ a3.out).mono ?_;rintro _ l1 ⟨B3,d3,rfl,a⟩;have K:=hI (e3.out.next a);have d9:=hI (d8.out.below a);have d0:=hI (c9.out.next a);have d5:Hid (l1.cell? ⟨q,S,none⟩=some (.int .i64 5)):=(a.cell (p:=⟨q,S,none⟩) G).trans d4.out;have g6:q < l1.heap.size:=vad G a.size;clear a y z j1 j2 e3 Y d8 a3 c9 d4 G;have y:=K.out.box b8;have z:=K.out.rowAt;go_wp2_with fail;refine (q_prms r cs N.out HN.out _ d9.out).mono ?_;rintro _ l7 ⟨m,rfl,a⟩;have i8:=hI (K.out.next a);have h7:=hI (d0.out.next a);have y2:l7.cell? ⟨q,S,none⟩=some (.int .i64 5):=(a.cell (p:=⟨q,S,none⟩) g6).trans d5.out;have y1:=h7.out.at_ 11 b0.out;clear a y z K d9 d0 d5;go_wp2;go_ret;exact ⟨rfl,i8.out.b⟩
