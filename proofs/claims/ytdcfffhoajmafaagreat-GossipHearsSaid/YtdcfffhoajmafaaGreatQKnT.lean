/- Texts that the law leans on. -/
import Derived.Test.YtdcfffhoajmafaaGreatQKnX
set_option maxRecDepth 100000
set_option maxHeartbeats 16000000
namespace Go.Proofs.YtdcfffhoajmafaaGreat
open Go.RowKit Go.Sort Go.Lib Go.Proofs.Tryz
section
def encJ (x:Int):List Value:=[.int .i64 x]
theorem qhq:∀ x,∀ u ∈ encJ x,u.oneCell'=true:=fun x u a=>by
 obtain rfl:=vco.1 a;rfl
theorem qeg (x:Int):(encJ x).length=1:=rfl
section
variable {w W W':World} {x:Int} {e:TypeId} {o:Obj} {H:Nat}
theorem n1 (b:W.cell? ⟨H,0,none⟩=some (.int .i64 x)):RdK encJ 1 (H + 1) W (some ⟨H,0,none⟩) #[x]:=fun _ =>
 ⟨H,0,rfl,vcr _,fun t c=>by
  have a:t=0:=by simp at c;omega
  subst a;rw [get_flatK _ _ _ _ js]
  exact b⟩
theorem n1A (a:World) (x:Int) (e:TypeId):RdK encJ 1 (a.heap.size + 1) (a.alloc (.cells #[.int .i64 x] e)).drew (some ⟨a.heap.size,0,none⟩) #[x]:=n1 (qau a _ _ 0)
theorem n1B (b:((w.alloc o).alloc (.cells #[.int .i64 x] e)).drew.grownBy W' (Value.slice (some ⟨w.heap.size,0,none⟩) 0 0).ownBlock):RdK encJ 1 (w.heap.size + 1 + 1) W' (some ⟨w.heap.size + 1,0,none⟩) #[x]:=by
 have a:w.heap.size + 1=(w.alloc o).heap.size:=by simp
 refine n1 ?_;rw [b.cell_far ⟨w.heap.size + 1,0,none⟩ js (by simp [Value.ownBlock]),a];exact qau (w.alloc o) _ _ 0
theorem n1C (a:((w.alloc (.cells #[.int .i64 x] e)).alloc o).drew.grownBy W' (Value.slice (some ⟨w.heap.size + 1,0,none⟩) 0 0).ownBlock):RdK encJ 1 (w.heap.size + 1) W' (some ⟨w.heap.size,0,none⟩) #[x]:=by
 refine n1 ?_;rw [a.cell_far ⟨w.heap.size,0,none⟩ jso (by simp [Value.ownBlock])];exact (vbq (w.alloc (.cells #[.int .i64 x] e)) o ⟨w.heap.size,0,none⟩ js).trans (qau w _ _ 0)
theorem enA (w:World) (e:TypeId):(w.alloc (.cells #[] e)).drew.ownsRow w.heap.size e 1 (.slice (some ⟨w.heap.size,0,none⟩) 0 0) (#[]:Array Int).size (flatK encJ 1 #[]).toList:=(qba w e encJ 1).drew
theorem enB (w:World) (e:TypeId) (o:Obj):((w.alloc (.cells #[] e)).alloc o).drew.ownsRow w.heap.size e 1 (.slice (some ⟨w.heap.size,0,none⟩) 0 0) (#[]:Array Int).size (flatK encJ 1 #[]).toList:=((qba w e encJ 1).alloc o).drew
theorem enC (w:World) (e:TypeId) (o:Obj) (H:(w.alloc o).heap.size=w.heap.size + 1):((w.alloc o).alloc (.cells #[] e)).drew.ownsRow w.heap.size e 1 (.slice (some ⟨w.heap.size + 1,0,none⟩) 0 0) (#[]:Array Int).size (flatK encJ 1 #[]).toList:=by
 have:=qbq (qba (w.alloc o) e encJ 1).drew (base':=w.heap.size) js
 rw [H] at this;exact this
theorem qmm {g m k B b:Nat} {a:Array Int} (h:HoldsK encJ 1 W g b a) (j:g < W.heap.size) (i:Below W.heap.size W W') (n:a.size=m) (l:k<=m) (f:g < B):RdK encJ 1 B W' (some ⟨g,b,none⟩) (a.toList.take k).toArray:=fun _ =>
 ⟨g,b,rfl,f,fun t d=>by
  have c:(a.toList.take k).toArray.size=k:=by simp;omega
  rw [c] at d;rw [i.cell (p:=⟨g,b + t,none⟩) j,(h t (by rw [size_flatK];omega)).1,get_flatK _ _ a _ jo,get_flatK _ _ (a.toList.take k).toArray _ (by rw [c];exact d)];have e:(a.toList.take k).toArray[t / 1]! = a[t / 1]!:=by
   rw [vae _ _ (by rw [c];omega),vae a _ jo];simp
  rw [e];rfl⟩
theorem qmn {g m k B b off:Nat} {a:Array Int} (n:HoldsK encJ 1 W g b a) (q:g < W.heap.size) (o:Below W.heap.size W W') (s:a.size=m) (r:k<=m) (l:g < B) (u:off=b + k * 1\/k=m):RdK encJ 1 B W' (some ⟨g,off,none⟩) (a.toList.drop k).toArray:=fun j =>
 ⟨g,off,rfl,l,fun t d=>by
  have c:(a.toList.drop k).toArray.size=m - k:=by simp;omega
  rw [c] at d j;obtain rfl:off=b + k * 1:=by omega
  have e:b + k * 1 + t=b + (k * 1 + t):=by omega
  rw [o.cell (p:=⟨g,b + k * 1 + t,none⟩) q,e,(n (k * 1 + t) (by rw [size_flatK];omega)).1,get_flatK _ _ a _ jo,get_flatK _ _ (a.toList.drop k).toArray _ (by rw [c];exact d)];have h:(k * 1 + t) / 1=k + t / 1:=by omega
  have i:(k * 1 + t) % 1=t % 1:=by omega
  have f:(a.toList.drop k).toArray[t / 1]! = a[k + t / 1]!:=by
   rw [vae _ _ (by rw [c];omega),vae a _ jo];simp
  rw [f,h,i];rfl⟩
theorem qul {b m:Nat} {v:Value} {d:Array Int} (h:W.ownsRow b e 1 v m (flatK encJ 1 d).toList) (q:d.size=m) (j:v≠.slice none 0 0):∃ g a l,v=.slice (some ⟨g,l,none⟩) m a/\m<=a/\g < W.heap.size/\HoldsK encJ 1 W g l d:=by
 subst q;obtain ⟨g,a,k,i,o,p⟩:=qbl h j;refine ⟨g,a,0,k,?_,o,p⟩;obtain ⟨_,⟨i,_⟩ | ⟨s,f,n,c,t,u,r,_⟩⟩:=h
 .exact absurd i j
 rw [k] at c;injection c with _ _ e3
 omega
theorem qpv {g k a:Nat} {b:Array Int} (d:HoldsK encJ 1 w g a b) (f:g < w.heap.size) (e:Below w.heap.size w W) (hi:k < b.size):W.cell? ⟨g,a + k,none⟩=some (.int .i64 b[k]!):=by
 have:=(e.cell (p:=⟨g,a + k * 1,none⟩) f).trans ((d.cell (i:=k) (c:=0) hi jd).1)
 rwa [vcq] at this
theorem qkl {g a:Nat} {f:Array Int} (b:HoldsK encJ 1 w g a f) (d:g < w.heap.size) (c:Below w.heap.size w W):HoldsK encJ 1 W g a f:=fun t e =>
 ⟨(c.cell (p:=⟨g,a + t,none⟩) d).trans (b t e).1,(c.frozen (p:=⟨g,a + t,none⟩) d).trans (b t e).2⟩
end
theorem rdI_of_N {B:Nat} {w:World} {A:Option Addr} {d:Array Int} (h:RdK encJ 1 B w A d):RdI_R B w A d:=fun c=>by
 obtain ⟨b,a,e,g,f⟩:=h c;refine ⟨b,a,e,g,fun i j=>?_⟩;rw [f i jo,get_flatK _ _ _ _ jo,vfb,Nat.div_one];rfl
theorem put_J {l:Array Int} {y:Int} {k:Nat} (d:k<=l.size) (b:∀ j,j < k->l[j]! < y) (a:k < l.size->y < l[k]!):putL y l.toList=l.toList.take k ++ y :: l.toList.drop k:=by
 rw [qqh y l.toList k (by simpa using d) (fun j h c=>by have:=b j c;rw [vae l j (by simpa using h)] at this;simpa using this) (fun h=>by have:=a (by simpa using h);rw [vae l k (by simpa using h)] at this;simpa using Int.le_of_lt this)];rw [vao];rintro ⟨h,e⟩
 have:=a (by simpa using h)
 rw [vae l k (by simpa using h)] at this;rw [vae l.toList k h] at e;simp at e;omega
theorem put_J0 {l:Array Int} {y:Int} {k:Nat} (a:k < l.size) (c:∀ j,j < k->l[j]! < y) (b:l[k]! = y):putL y l.toList=l.toList:=by
 rw [qqh y l.toList k jso (fun j h d=>by have:=c j d;rw [vae l j (by simpa using h)] at this;simpa using this) (fun h=>by rw [vae l k a] at b;simp;omega)];rw [vam];refine ⟨by simpa using a,?_⟩;rw [vae l k a] at b;rw [vae l.toList k (by simpa using a)];simpa using b
attribute [local go_sem ↓] Go.wp_at_zero Go.wp_at_succ
theorem rOpen_ok (H:Int) (rs ats:Array (Int×Int)) (A1:Option Addr) (c1:Nat) (A2:Option Addr) (c2:Nat) (w:World) (h1:RdK encR 2 w.heap.size w A1 rs) (h2:RdK qae 2 w.heap.size w A2 ats) (hP:ChkP ⟨H,rs,ats⟩) :
 Calls prog 105 #[.agg #[.int .i64 H,.slice A1 rs.size c1,.slice A2 ats.size c2]] w fun e I=>∃ v m,e=.returned v/\m.toList=opN ats.toList/\I.ownsRow w.heap.size 3 1 v m.size (flatK encJ 1 m).toList/\Below w.heap.size w I:=by
 obtain ⟨T,A,B,C,D⟩:=vbo qcc;have HC:Hid (∀ W,Below w.heap.size w W->Calls prog 92 #[.agg #[.int .i64 H,.slice A1 rs.size c1,.slice A2 ats.size c2]] W fun e I=>e=.returned (.int .i64 0)/\Below W.heap.size W I):=fun W K=>by
  have:=qfp H rs ats A1 c1 A2 c2 W ((h1.below K).mono K.size) ((h2.below K).mono K.size)
  unfold chkE at this
  rwa [vam (qco.2 hP)] at this
 have b5:=hI h2;have s2:=hP.sz;simp only at s2;clear h1 h2 hP;obtain ⟨N,a1⟩:∃ W,Hid (W=w.alloc (.cells #[.int .i64 H,.slice A1 rs.size c1,.slice A2 ats.size c2] 66)):=⟨_,rfl⟩
 have a7:Hid (N.heap[w.heap.size]?=some (.cells #[.int .i64 H,.slice A1 rs.size c1,.slice A2 ats.size c2] 66 (0,0))):=by rw [a1.out];exact vaw w _
 have O:Hid (Below w.heap.size w N):=by rw [a1.out];exact bel1 w _
 go_in;go_wp2
 go_loopw [3,4] (fun v iv wr=>∃ (j:Nat) (m:Array Int),iv=.int .i64 (j:Int)/\j<=ats.size/\m.toList=opN (ats.toList.take j)/\wr.ownsRow N.heap.size 3 1 v m.size (flatK encJ 1 m).toList/\Below N.heap.size N wr) (fun _ iv _=>ats.size - (intOf iv).toNat)
 case atStart=>exact ⟨0,#[],rfl,vaj _,rfl,qbk _ _ _ _ _,by rw [a1.out];exact vag _ _⟩
 case round =>
  clear a1;obtain ⟨j,m,rfl,hj,ho,Q,hB⟩:=hrel;have HB:=hI hB;obtain ⟨⟨k0,k1,k2⟩,_⟩:=blk3 (qak a7.out HB.out);have b8:m.size<=j:=by
   have h3:=opN_len (ats.toList.take j);have h4:=List.length_take_le j ats.toList;rw [<-ho] at h3;simp at h3 h4 |-
   omega
  clear hB;by_cases b1:j < ats.size
  .have jz:(j:Int) < (ats.size:Int):=by omega
   obtain ⟨b,t,rfl,b7,f⟩:=(b5.out.below (qaa O.out HB.out)).at_ b1;have e1:=f 1 jo;have X:b < N.heap.size:=vad b7 O.out.size;have HS:Hid (opN (ats.toList.take (j + 1))=putL ats[j]!.2 m.toList):=by show _=_;rw [qcv b1,opN_snoc,<-ho]
   obtain ⟨y,hy⟩:∃ y,ats[j]!.2=y:=⟨_,rfl⟩
   simp only [qae,vac,vaf,hy] at e1;rw [hy] at HS;have Z:Hid (∀ W,Below N.heap.size N W->W.cell? ⟨b,t + j * 2 + 1,none⟩=some (.int .i64 y)/\W.cell? ⟨w.heap.size,2,none⟩=some (.slice (some ⟨b,t,none⟩) ats.size c2)):=fun W K=>⟨(K.cell (p:=⟨b,t + j * 2 + 1,none⟩) X).trans ((HB.out.cell (p:=⟨b,t + j * 2 + 1,none⟩) X).symm.trans e1),(blk3 (qak a7.out K)).1.2.2⟩
   clear f hy e1 X ho;go_wp2_with fail;refine (HC.out wr (qaa O.out HB.out)).mono ?_;rintro e w2 ⟨rfl,a3⟩;have i:w2.ownsRow N.heap.size 3 1 u3 m.size (flatK encJ 1 m).toList:=qei Q (fun g _ hl=>a3.block g hl);have q:=hI (qaa HB.out a3);clear a3 Q k0 k1 k2 HB;obtain ⟨s,hs⟩:∃ s,m.size=s:=⟨_,rfl⟩
   rw [hs] at i b8;have d:=hI hs;clear hs;by_cases hn:u3=.slice none 0 0
   .subst hn
    have h0:s=0:=by
     obtain ⟨_,⟨_,h0⟩ | ⟨g,x,c3,hv,_⟩⟩:=i
     .exact h0
     cases hv
    subst h0;clear i;obtain rfl:m=#[]:=var d.out;go_wp2_with fail
    go_loopw [5] (fun kk wr=>kk=.int .i64 0/\Below w2.heap.size w2 wr) (fun _ _=>0)
    case atStart=>exact ⟨rfl,vag _ _⟩
    case round =>
     obtain ⟨rfl,c⟩:=hrel;go_wp2_with fail;go_quiet (fail);have a:=qaj c nq;clear c;generalize wr.drewN nq=wc at a |-
     have c:=a;clear a;go_wp2_with fail;go_quiet (fail);have a:=qaj c nq;clear c;generalize wc.drewN nq=wd at a |-
     obtain ⟨wc,G⟩:∃ W,wd=W:=⟨_,rfl⟩
     rw [G] at a |-
     have c:=a;clear a G;have n:Hid (Below N.heap.size N wc):=q.out.trans (c.mono q.out.size);have r:Hid (∀ W,Below wc.heap.size wc W->Below wc.heap.size wc W/\W.cell? ⟨b,t + j * 2 + 1,none⟩=some (.int .i64 y)/\W.cell? ⟨w.heap.size,2,none⟩=some (.slice (some ⟨b,t,none⟩) ats.size c2)):=fun W K=>⟨K,Z.out W (n.out.trans (K.mono n.out.size))⟩
     have a4:Below wc.heap.size wc wc:=vag _ _;have E:Hid ((#[] ++ ((#[]:Array Int).toList.take 0).toArray ++ #[y] ++ ((#[]:Array Int).toList.drop 0).toArray).toList=opN (ats.toList.take (j + 1))):=by show _=_;rw [HS.out];rfl
     clear c;go_wp2_with fail;go_region_held3 (fun I=>Below wc.heap.size wc I/\I.cell? ⟨b,t + j * 2 + 1,none⟩=some (.int .i64 y)/\I.cell? ⟨w.heap.size,2,none⟩=some (.slice (some ⟨b,t,none⟩) ats.size c2)) (first | assumption | exact r.out _ jN | exact r.out _ (And.left jN) | exact r.out _ (vaq jN) | exact r.out _ (vaq (And.left jN)) | exact r.out _ (qab jN _) | exact r.out _ (qab (And.left jN) _) | exact r.out _ (qab jN _).drew | exact r.out _ (qab (And.left jN) _).drew | exact r.out _ (qab (vaq jN) _) | exact r.out _ (qab (vaq (And.left jN)) _))
      (first
        | (refine qai qhq qeg jd jr _ _ _ jr wc 3 T _ 8 underlying26 A B C D rfl _ #[] jr (by first | exact enA _ _ | exact enB _ _ _ | exact enC _ _ _ js) _ _ _ (wc.heap.size + 9) ((#[]:Array Int).toList.take 0).toArray jr (jf d.out) (fun h=>absurd h js) (fun _=>rfl) (jf d.out) jd jn ?_;intro v1 a5 o l U)
        | (refine qai qhq qeg jd jr _ _ _ jr wc 3 T _ 8 underlying26 A B C D rfl v1 (#[] ++ ((#[]:Array Int).toList.take 0).toArray) jr (by first | exact o | exact (o.alloc _).drew) _ _ _ _ #[y] jr jr (by first | exact n1A _ _ _ | exact n1B l | exact n1C l) (fun h=>by cases h) (jf d.out) jd jn ?_;intro v2 a6 i L V)
        | (refine qai qhq qeg jd jr _ _ _ jr wc 3 T _ 8 underlying26 A B C D rfl v2 (#[] ++ ((#[]:Array Int).toList.take 0).toArray ++ #[y]) jr (by first | exact i | exact i.drew) _ _ _ (wc.heap.size + 9) ((#[]:Array Int).toList.drop 0).toArray jr (jf d.out) (fun h=>absurd h js) (fun _=>rfl) (jf d.out) jd jn ?_;intro v3 w3 u M F))
     all_goals
      go_wp2;exact ⟨⟨j + 1,_,by go_num,by omega,E.out,qbq u n.out.size,n.out.trans (F.mono n.out.size)⟩,by simp [intOf];omega⟩
   obtain ⟨g,x,o0,rfl,b9,hg,hH⟩:=qul i d.out hn;have R:=hI hH;have J:=hI hg;have a8:=hI i;clear hH hg i hn;go_wp2_with fail
   go_loopw [5] (fun kk wr=>∃ k:Nat,kk=.int .i64 (k:Int)/\k<=s/\(∀ j,j < k->m[j]! < y)/\Below w2.heap.size w2 wr) (fun kk _=>s - (intOf kk).toNat)
   case atStart=>exact ⟨0,rfl,vaj _,(fun j hj=>absurd hj jo),vag _ _⟩
   case round =>
    obtain ⟨k,rfl,hk,b0,c⟩:=hrel;have HJ:=hI b0;clear b0;have k0:(0:Int)<=(k:Int):=by omega
    have kc:(k:Int)<=(x:Int):=by omega
    have kd:(k:Int)<=(s:Int):=by omega
    have q0:=(Z.out wr (q.out.trans (c.mono q.out.size))).1;have q2:=(Z.out wr (q.out.trans (c.mono q.out.size))).2;by_cases a2:k < s
    .have c5:(k:Int) < (s:Int):=by omega
     have p0:wr.cell? ⟨g,o0 + k,none⟩=some (.int .i64 m[k]!):=qpv R.out J.out c (by rw [d.out];exact a2);have a9:¬ x=k:=by omega
     obtain ⟨z,hz⟩:∃ z,m[k]! = z:=⟨_,rfl⟩
     rw [hz] at p0;have HZ:=hI hz;clear hz;by_cases S:z < y
     .have b3:decide (z < y)=true:=vah S
      have b6:=hI S;clear S;go_wp2_with fail;go_quiet (fail);go_wp2
      exact ⟨⟨k + 1,by go_num,by omega,(fun j hj=>by
       rcases val j k with h | h
       .exact HJ.out j h
       obtain rfl:j=k:=by omega
       rw [HZ.out];exact b6.out),qaj c nq⟩,by simp [intOf];omega⟩
     have b3:decide (z < y)=false:=vab S;by_cases Y:z=y
     .have b2:(z == y)=true:=by simp [Y]
      have b4:Hid (m.toList=opN (ats.toList.take (j + 1))):=by show _=_;rw [HS.out,put_J0 (k:=k) (by rw [d.out];exact a2) HJ.out (by rw [HZ.out];exact Y)]
      clear S Y;go_wp2_with fail;go_quiet (fail);have a:=qaj c nq;clear c q0 q2 p0;generalize wr.drewN nq=wc at a |-
      have c:=a;clear a;have q0:=(Z.out wc (q.out.trans (c.mono q.out.size))).1;have q2:=(Z.out wc (q.out.trans (c.mono q.out.size))).2;have p0:wc.cell? ⟨g,o0 + k,none⟩=some (.int .i64 m[k]!):=qpv R.out J.out c (by rw [d.out];exact a2);rw [HZ.out] at p0;go_wp2_with fail;go_quiet (fail);go_wp2;exact ⟨⟨j + 1,m,by go_num,by omega,b4.out,(by rw [d.out];exact qei a8.out (fun g _ hl=>(qaj c nq).block g hl)),q.out.trans ((qaj c nq).mono q.out.size)⟩,by simp [intOf];omega⟩
     have b2:(z == y)=false:=by simp [Y]
     have a0:Hid (k < m.size->y < m[k]!):=fun _=>by rw [HZ.out];omega
     clear S Y;go_wp2_with fail;go_quiet (fail);have a:=qaj c nq;clear c q0 q2 p0;generalize wr.drewN nq=wc at a |-
     have c:=a;clear a;have q0:=(Z.out wc (q.out.trans (c.mono q.out.size))).1;have q2:=(Z.out wc (q.out.trans (c.mono q.out.size))).2;have p0:wc.cell? ⟨g,o0 + k,none⟩=some (.int .i64 m[k]!):=qpv R.out J.out c (by rw [d.out];exact a2);rw [HZ.out] at p0;go_wp2_with fail;go_quiet (fail);have a:=qaj c nq;clear c q0 q2 p0;generalize wc.drewN nq=wd at a |-
     obtain ⟨wc,G⟩:∃ W,wd=W:=⟨_,rfl⟩
     rw [G] at a |-
     have c:=a;clear a G;have n:Hid (Below N.heap.size N wc):=q.out.trans (c.mono q.out.size);have r:Hid (∀ W,Below wc.heap.size wc W->Below wc.heap.size wc W/\W.cell? ⟨b,t + j * 2 + 1,none⟩=some (.int .i64 y)/\W.cell? ⟨w.heap.size,2,none⟩=some (.slice (some ⟨b,t,none⟩) ats.size c2)):=fun W K=>⟨K,Z.out W (n.out.trans (K.mono n.out.size))⟩
     have a4:Below wc.heap.size wc wc:=vag _ _;have HH:Hid (HoldsK encJ 1 wc g o0 m):=qkl R.out J.out c;have P:Hid (g < wc.heap.size):=vad J.out c.size;have E:Hid ((#[] ++ (m.toList.take k).toArray ++ #[y] ++ (m.toList.drop k).toArray).toList=opN (ats.toList.take (j + 1))):=by
      show _=_;rw [HS.out,put_J (k:=k) (jg d.out) HJ.out a0.out];simp
     clear c;go_wp2_with fail;go_region_held3 (fun I=>Below wc.heap.size wc I/\I.cell? ⟨b,t + j * 2 + 1,none⟩=some (.int .i64 y)/\I.cell? ⟨w.heap.size,2,none⟩=some (.slice (some ⟨b,t,none⟩) ats.size c2)) (first | assumption | exact r.out _ jN | exact r.out _ (And.left jN) | exact r.out _ (vaq jN) | exact r.out _ (vaq (And.left jN)) | exact r.out _ (qab jN _) | exact r.out _ (qab (And.left jN) _) | exact r.out _ (qab jN _).drew | exact r.out _ (qab (And.left jN) _).drew | exact r.out _ (qab (vaq jN) _) | exact r.out _ (qab (vaq (And.left jN)) _))
      (first
        | (refine qai qhq qeg jd jr _ _ _ jr wc 3 T _ 8 underlying26 A B C D rfl _ #[] jr (by first | exact enA _ _ | exact enB _ _ _ | exact enC _ _ _ js) _ _ _ (wc.heap.size + 9) (m.toList.take k).toArray jr (jf d.out) (qmm HH.out P.out jn d.out jo (jg P.out)) (fun h=>by cases h) (jf d.out) jd jn ?_;intro v1 a5 o l U)
        | (refine qai qhq qeg jd jr _ _ _ jr wc 3 T _ 8 underlying26 A B C D rfl v1 (#[] ++ (m.toList.take k).toArray) jr (by first | exact o | exact (o.alloc _).drew) _ _ _ _ #[y] jr jr (by first | exact n1A _ _ _ | exact n1B l | exact n1C l) (fun h=>by cases h) (jf d.out) jd jn ?_;intro v2 a6 i L V)
        | (refine qai qhq qeg jd jr _ _ _ jr wc 3 T _ 8 underlying26 A B C D rfl v2 (#[] ++ (m.toList.take k).toArray ++ #[y]) jr (by first | exact i | exact i.drew) _ _ _ (wc.heap.size + 9) (m.toList.drop k).toArray jr (jf d.out) (qmn HH.out P.out jn d.out jo (jg P.out) jo) (fun h=>by cases h) (jf d.out) jd jn ?_;intro v3 w3 u M F))
     all_goals
      go_wp2;exact ⟨⟨j + 1,_,by go_num,by omega,E.out,qbq u n.out.size,n.out.trans (F.mono n.out.size)⟩,by simp [intOf];omega⟩
    obtain rfl:k=s:=by omega
    have a0:Hid (k < m.size->y < m[k]!):=fun h=>absurd h (jg d.out)
    have c4:decide ((k:Int) < (k:Int))=false:=vab jo;by_cases a9:x=k
    .obtain rfl:x=k:=a9
     go_wp2_with fail;go_quiet (fail);have a:=qaj c nq;clear c q0 q2;generalize wr.drewN nq=wc at a |-
     have c:=a;clear a;go_wp2_with fail;go_quiet (fail);have a:=qaj c nq;clear c;generalize wc.drewN nq=wd at a |-
     obtain ⟨wc,G⟩:∃ W,wd=W:=⟨_,rfl⟩
     rw [G] at a |-
     have c:=a;clear a G;have n:Hid (Below N.heap.size N wc):=q.out.trans (c.mono q.out.size);have r:Hid (∀ W,Below wc.heap.size wc W->Below wc.heap.size wc W/\W.cell? ⟨b,t + j * 2 + 1,none⟩=some (.int .i64 y)/\W.cell? ⟨w.heap.size,2,none⟩=some (.slice (some ⟨b,t,none⟩) ats.size c2)):=fun W K=>⟨K,Z.out W (n.out.trans (K.mono n.out.size))⟩
     have a4:Below wc.heap.size wc wc:=vag _ _;have HH:Hid (HoldsK encJ 1 wc g o0 m):=qkl R.out J.out c;have P:Hid (g < wc.heap.size):=vad J.out c.size;have E:Hid ((#[] ++ (m.toList.take x).toArray ++ #[y] ++ (m.toList.drop x).toArray).toList=opN (ats.toList.take (j + 1))):=by
      show _=_;rw [HS.out,put_J (k:=x) (jg d.out) HJ.out a0.out];simp
     clear c;go_wp2_with fail;go_region_held3 (fun I=>Below wc.heap.size wc I/\I.cell? ⟨b,t + j * 2 + 1,none⟩=some (.int .i64 y)/\I.cell? ⟨w.heap.size,2,none⟩=some (.slice (some ⟨b,t,none⟩) ats.size c2)) (first | assumption | exact r.out _ jN | exact r.out _ (And.left jN) | exact r.out _ (vaq jN) | exact r.out _ (vaq (And.left jN)) | exact r.out _ (qab jN _) | exact r.out _ (qab (And.left jN) _) | exact r.out _ (qab jN _).drew | exact r.out _ (qab (And.left jN) _).drew | exact r.out _ (qab (vaq jN) _) | exact r.out _ (qab (vaq (And.left jN)) _))
      (first
        | (refine qai qhq qeg jd jr _ _ _ jr wc 3 T _ 8 underlying26 A B C D rfl _ #[] jr (by first | exact enA _ _ | exact enB _ _ _ | exact enC _ _ _ js) _ _ _ (wc.heap.size + 9) (m.toList.take x).toArray jr (jf d.out) (qmm HH.out P.out jn d.out jo (jg P.out)) (fun h=>by cases h) (jf d.out) jd jn ?_;intro v1 a5 o l U)
        | (refine qai qhq qeg jd jr _ _ _ jr wc 3 T _ 8 underlying26 A B C D rfl v1 (#[] ++ (m.toList.take x).toArray) jr (by first | exact o | exact (o.alloc _).drew) _ _ _ _ #[y] jr jr (by first | exact n1A _ _ _ | exact n1B l | exact n1C l) (fun h=>by cases h) (jf d.out) jd jn ?_;intro v2 a6 i L V)
        | (refine qai qhq qeg jd jr _ _ _ jr wc 3 T _ 8 underlying26 A B C D rfl v2 (#[] ++ (m.toList.take x).toArray ++ #[y]) jr (by first | exact i | exact i.drew) _ _ _ (wc.heap.size + 9) (m.toList.drop x).toArray jr (jf d.out) (qmn HH.out P.out jn d.out jo (jg P.out) jo) (fun h=>by cases h) (jf d.out) jd jn ?_;intro v3 w3 u M F))
     all_goals
      go_wp2;exact ⟨⟨j + 1,_,by go_num,by omega,E.out,qbq u n.out.size,n.out.trans (F.mono n.out.size)⟩,by simp [intOf];omega⟩
    go_wp2_with fail;go_quiet (fail);have a:=qaj c nq;clear c q0 q2;generalize wr.drewN nq=wc at a |-
    have c:=a;clear a;go_wp2_with fail;go_quiet (fail);have a:=qaj c nq;clear c;generalize wc.drewN nq=wd at a |-
    obtain ⟨wc,G⟩:∃ W,wd=W:=⟨_,rfl⟩
    rw [G] at a |-
    have c:=a;clear a G;have n:Hid (Below N.heap.size N wc):=q.out.trans (c.mono q.out.size);have r:Hid (∀ W,Below wc.heap.size wc W->Below wc.heap.size wc W/\W.cell? ⟨b,t + j * 2 + 1,none⟩=some (.int .i64 y)/\W.cell? ⟨w.heap.size,2,none⟩=some (.slice (some ⟨b,t,none⟩) ats.size c2)):=fun W K=>⟨K,Z.out W (n.out.trans (K.mono n.out.size))⟩
    have a4:Below wc.heap.size wc wc:=vag _ _;have HH:Hid (HoldsK encJ 1 wc g o0 m):=qkl R.out J.out c;have P:Hid (g < wc.heap.size):=vad J.out c.size;have E:Hid ((#[] ++ (m.toList.take k).toArray ++ #[y] ++ (m.toList.drop k).toArray).toList=opN (ats.toList.take (j + 1))):=by
     show _=_;rw [HS.out,put_J (k:=k) (jg d.out) HJ.out a0.out];simp
    clear c;go_wp2_with fail;go_region_held3 (fun I=>Below wc.heap.size wc I/\I.cell? ⟨b,t + j * 2 + 1,none⟩=some (.int .i64 y)/\I.cell? ⟨w.heap.size,2,none⟩=some (.slice (some ⟨b,t,none⟩) ats.size c2)) (first | assumption | exact r.out _ jN | exact r.out _ (And.left jN) | exact r.out _ (vaq jN) | exact r.out _ (vaq (And.left jN)) | exact r.out _ (qab jN _) | exact r.out _ (qab (And.left jN) _) | exact r.out _ (qab jN _).drew | exact r.out _ (qab (And.left jN) _).drew | exact r.out _ (qab (vaq jN) _) | exact r.out _ (qab (vaq (And.left jN)) _))
     (first
       | (refine qai qhq qeg jd jr _ _ _ jr wc 3 T _ 8 underlying26 A B C D rfl _ #[] jr (by first | exact enA _ _ | exact enB _ _ _ | exact enC _ _ _ js) _ _ _ (wc.heap.size + 9) (m.toList.take k).toArray jr (jf d.out) (qmm HH.out P.out jn d.out jo (jg P.out)) (fun h=>by cases h) (jf d.out) jd jn ?_;intro v1 a5 o l U)
       | (refine qai qhq qeg jd jr _ _ _ jr wc 3 T _ 8 underlying26 A B C D rfl v1 (#[] ++ (m.toList.take k).toArray) jr (by first | exact o | exact (o.alloc _).drew) _ _ _ _ #[y] jr jr (by first | exact n1A _ _ _ | exact n1B l | exact n1C l) (fun h=>by cases h) (jf d.out) jd jn ?_;intro v2 a6 i L V)
       | (refine qai qhq qeg jd jr _ _ _ jr wc 3 T _ 8 underlying26 A B C D rfl v2 (#[] ++ (m.toList.take k).toArray ++ #[y]) jr (by first | exact i | exact i.drew) _ _ _ (wc.heap.size + 9) (m.toList.drop k).toArray jr (jf d.out) (qmn HH.out P.out jn d.out jo (jg P.out) jo) (fun h=>by cases h) (jf d.out) jd jn ?_;intro v3 w3 u M F))
    all_goals
     go_wp2;exact ⟨⟨j + 1,_,by go_num,by omega,E.out,qbq u n.out.size,n.out.trans (F.mono n.out.size)⟩,by simp [intOf];omega⟩
  obtain rfl:j=ats.size:=by omega
  have c0:decide ((ats.size:Int) < (ats.size:Int))=false:=vab jo;rw [vaz js] at ho;have HO:=hI ho;clear ho;go_wp2;go_ret
  first | exact ⟨_,m,rfl,HO.out,qbq Q O.out.size,qaa O.out HB.out⟩ | exact ⟨_,rfl,m,HO.out,qbq Q O.out.size,qaa O.out HB.out⟩
end
theorem qwo (d:Int) (rs ats:Array (Int×Int)) (A1:Option Addr) (c1:Nat) (A2:Option Addr) (c2:Nat) (lo hi:Int) (h:Array (Int×Int)) (A3:Option Addr) (c3:Nat) (w:World) (h1:RdK encR 2 w.heap.size w A1 rs) (h2:RdK qae 2 w.heap.size w A2 ats) (h3:RdK qae 2 w.heap.size w A3 h)
 (G:AddA ⟨d,rs,ats⟩ lo hi h) (s1:rs.size<=500) (s2:ats.size + h.size<=400) (s3:h.size<=200) :
 Calls prog 30 #[.agg #[.int .i64 d,.slice A1 rs.size c1,.slice A2 ats.size c2],.int .i64 lo,.int .i64 hi,.slice A3 h.size c3] w fun e w'=>∃ v r,e=.returned (.tuple #[v,.int .i64 0])/\KnF w.heap.size w' v r/\AddR ⟨d,rs,ats⟩ lo hi h r/\r.rs.size<=rs.size + ats.size + h.size + 1/\Below w.heap.size w w':=by
 have HC:Hid (∀ W,Below w.heap.size w W->Calls prog 67 #[.agg #[.int .i64 d,.slice A1 rs.size c1,.slice A2 ats.size c2]] W fun e w'=>e=.returned (.int .i64 (chkE ⟨d,rs,ats⟩))/\Below W.heap.size W w'):=fun W U=>qgo d rs ats A1 c1 A2 c2 W ((h1.below U).mono U.size) ((h2.below U).mono U.size)
 have e7:Hid (∀ W,Below w.heap.size w W->Calls prog 68 #[.slice A3 h.size c3,.int .i64 lo,.int .i64 hi] W fun e w'=>e=.returned (.bool (qbr hi lo h.toList))/\Below W.heap.size W w'):=fun W U=>qpu A3 c3 h lo hi W ((h3.below U).mono U.size) jo
 rw [G.up] at e7;have q0:=qlz ⟨d,rs,ats⟩;rw [qco.2 G.chk] at q0;have H1:=hI h1;have H2:=hI h2;have H3:=hI h3;have HA:=hI G;have t:qam rs=0:=G.chk.rs;have b5:=hI t;have b0:0<=d:=G.chk.b0;have b1:d<=1000000:=G.chk.b1;have l0:=G.lo0;have l1:=G.le;have l2:=G.hi1;have n2:Hid ((qbn ats.toList).Pairwise (· < ·)):=vdt.2 ((qbs _ _ _).1 G.chk.up).1;have n3:Hid ((qbn h.toList).Pairwise (· < ·)):=vdt.2 ((qbs _ _ _).1 G.up).1;have d1:decide (lo < 0)=false:=vab jo;have d2:decide (hi < lo)=false:=vab jo;have d3:decide (1000000 < hi)=false:=vab jo;clear h1 h2 h3 G t;generalize chkE ⟨d,rs,ats⟩=ce at q0 HC;have HT:=hI (qhu w (.cells #[.int .i64 d,.slice A1 rs.size c1,.slice A2 ats.size c2] 66) (.cells #[.int .i64 0,.slice none 0 0,.slice none 0 0] 66));go_in;go_wp2_with fail;refine (HC.out _ (qab (bel1 w _) _)).mono ?_;rintro e w1 ⟨rfl,X⟩;have h7:=hI (qak HT.out.1 X);have g6:=hI (qak HT.out.2 X);have b9:=hI (qaa (qab (bel1 w _) _) X);clear X HC HT;go_wp2_with fail;refine (e7.out _ b9.out).mono ?_;rintro e w2 ⟨rfl,Y⟩;have V:=hI (qak h7.out Y);have c6:=hI (qak g6.out Y);have A:=hI (qaa b9.out Y);clear Y e7 h7 g6 b9;have g3:=hI (qhm A3 c3 h w2 ((H3.out.below A.out).mono A.out.size) jo);go_wp2_with fail;refine g3.out.mono ?_;rintro e w3 ⟨v3,rfl,S,q⟩
 have hD:=qpj (addP d rs) 70 #[.pointer (some ⟨w.heap.size,0,none⟩)] (veb func70 jk rfl) v3 h w2.heap.size w3 (fun W x a5 o4=>by
  have hr:RdK encR 2 w2.heap.size w2 A1 rs:=(H1.out.below A.out).mono A.out.size;have k3:=qcj V.out;have k6:W.heap[w.heap.size]?=_:=(a5 _ k3).trans ((q.block _ k3).trans V.out);obtain ⟨⟨k0,k1,_⟩,_⟩:=blk3 k6
  exact kAdd1_any d rs A1 c1 x w.heap.size W (qcj k6) k0 k1 (((hr.below q).blocks (vaa _) a5).mono o4)) S q.size jo
 have HD:=hI hD;have h9:=hI (qak V.out q);have g8:=hI (qak c6.out q);have l8:=hI (qaa A.out q);have i3:=hI q;have o6:w.heap.size + 1 < w2.heap.size:=qcj c6.out;clear q hD S g3 V c6;go_wp2_with fail;refine HD.out.mono ?_;rintro e w4 ⟨Af,cf,rfl,f4,nf,_,Z⟩;have H:Hid ((h.toList.filter fun x=>!addP d rs x).toArray=qix ⟨d,rs,ats⟩ h):=by
  show _=_;unfold qix addP;congr 2;funext x;rw [has_in b5.out]
 rw [H.out] at f4;have e5:=hI f4;have b6:Below w2.heap.size w2 w4:=i3.out.trans Z;have c0:=hI (qaa A.out b6);have d6:=hI (show w4.heap[w.heap.size]?=_ from (Z.block _ jo).trans h9.out);have c7:=hI (show w4.heap[w.heap.size + 1]?=_ from (Z.block _ o6).trans g8.out);obtain ⟨N,R⟩:∃ N,N=(h.toList.filter fun x=>!addP d rs x).toArray:=⟨_,rfl⟩
 have p8:N.size<=h.size:=by
  rw [R,H.out]
  have:=vcf (fun a:Int×Int=>!(decide (a.1<=d) || inR rs a.1)) h.toList
  unfold qix;simp at this |-
  omega
 rw [<-R];rw [<-H.out,<-R] at e5;have m5:=hI (R.trans H.out);clear R f4 nf Z b6 HD h9 g8 H i3 l8;obtain ⟨⟨k0,k1,k2⟩,_⟩:=blk3 d6.out;have HM:=hI (qoq A2 c2 ats Af cf N w4 ((H2.out.below c0.out).mono c0.out.size) e5.out n2.out jo jo);go_wp2_with fail;refine HM.out.mono ?_;rintro e w5 ⟨Aa,ca,rfl,l4,na,ga,a0⟩;have B:=hI (qaa c0.out a0);have d7:=hI (qak d6.out a0);have g9:=hI (qak c7.out a0);have i5:=hI l4;have m9:=hI na;have h6:Hid (∀ g l,Aa=some ⟨g,l,none⟩->w.heap.size + 1 < g):=fun g l e=>vad (qcj c7.out) (ga g l e)
 clear l4 na ga a0 HM k0 k1 k2 d6 c7 e5;obtain ⟨⟨k0,k1,k2⟩,_⟩:=blk3 d7.out;have i4:=hI (qoq A3 c3 h A2 c2 ats w5 ((H3.out.below B.out).mono B.out.size) ((H2.out.below B.out).mono B.out.size) n3.out jo jo);go_wp2_with fail;refine i4.out.mono ?_;rintro e w6 ⟨Am,cm,rfl,f5,nm,n4,C⟩;have f9:=hI (qaa B.out C);have i0:=hI (qak d7.out C);have h4:=hI (qak g9.out C);have a9:=hI ((i5.out.below C).mono C.size);have o2:=qmi h ats;have j4:Hid (qbn (mrgK h ats).toList=(qcn (mrgK h ats)).toList):=by show _=_;simp [qcn]
 obtain ⟨M,hM⟩:∃ M,mrgK h ats=M:=⟨_,rfl⟩
 rw [hM] at f5 o2 j4;rw [hM];have i9:=hI (qrp Am cm M w6 f5 jo);have m8:=hI hM;clear f5 nm n4 C i4 k0 k1 k2 d7 g9 B i5 hM;go_wp2_with fail;refine i9.out.mono ?_;rintro e w7 ⟨rfl,Q,D⟩;have g0:=hI (qaa f9.out D);have i1:=hI (qak i0.out D);have c8:=hI (qak h4.out D);have b2:=hI ((a9.out.below D).mono D.size);have j7:(qcn M).size<=400:=by rw [qgx];omega
 have g2:=hI (quj lo hi (some ⟨w6.heap.size,0,none⟩) M.size (qcn M) w7 (qtt Q) l0 jo jo jo);clear Q D i9 i0 h4 f9 a9;go_wp2_with fail;refine g2.out.mono ?_;rintro e w8 ⟨v8,rfl,o,E⟩;have a5:=qpt lo hi (qcn M).toList (lo + 1);have j9:=betL_ne lo hi (qcn M).toList (lo + 1);obtain ⟨m,a6⟩:∃ m,(betL lo hi (lo + 1) (qcn M).toList).toArray=m:=⟨_,rfl⟩
 have n5:0 < m.size/\m.size<=401/\m.size<=M.size + 1:=by
  rw [<-a6]
  have:=List.length_pos_iff.2 j9
  have e:(qcn M).toList.length=(qcn M).size:=by simp
  have e2:=qgx M;simp;omega
 rw [a6] at o;have k9:v8≠.slice none 0 0:=by
  rintro rfl;obtain ⟨_,⟨_,h0⟩ | ⟨g,j0,p7,hv,_⟩⟩:=o
  .omega
  cases hv
 obtain ⟨gm,j0,rfl,f1,k8,j3⟩:=qbl o k9;have c4:=hI (qaa g0.out E);have J:=hI (qak i1.out E);have c9:=hI (qak c8.out E);have b3:=hI (b2.out.below E);have l7:=E.size;have m6:=hI f1;have p9:w.heap.size + 1 < gm:=vad (qcj c8.out) f1;have c5:=hI a6;have m7:=hI j3;have p2:=hI j7;obtain ⟨p3,p4,p5⟩:=n5;clear a5 j9 a6 o k9 E g2 i1 c8 g0 b2 j7 f1 j3;go_wp2
 go_loopw [61] (fun iv wr=>MxL d m gm w8 iv wr) (fun i _=>m.size - (intOf i).toNat)
 case atStart=>exact ⟨0,m,rfl,vaj _,rfl,(fun j hj=>absurd hj jo),(fun _ _=>rfl),SrtK.refl m7.out k8⟩
 case round =>
  obtain ⟨k,u,rfl,hk,a8,k7,k4,hS⟩:=hrel;have d8:=hI k7;have d4:=hI k4;have T:=hI hS;have z:=hI a8;clear k7 k4 hS a8;obtain ⟨⟨o7,o8,o9⟩,fb⟩:=blk3 ((T.out.grown.block _ (qcj J.out) (fun e=>by injection e with e;omega)).trans J.out);by_cases o0:k < m.size
  .have kz:(k:Int) < (m.size:Int):=by omega
   have cl:=T.out.holds.cell (i:=k) (c:=0) (by rw [z.out];exact o0) jd;simp only [vcc,vak] at cl;obtain ⟨e8,p6⟩:=cl;rw [d4.out k (vaa _)] at e8;obtain ⟨x,hx⟩:∃ x,m[k]! = x:=⟨_,rfl⟩
   rw [hx] at e8;have HX:=hI hx;clear hx;simp only [encR,vac] at e8;go_wp2
   go_still_tail 13,jk
   go_wp2;go_roundw
   case rel =>
    have a8:=z.out;have n6:u[k]!.2=x.2:=by rw [d4.out k (vaa _),HX.out]
    refine ⟨k + 1,u.setIfInBounds k (max x.1 (d + 1),u[k]!.2),by go_num,by omega,by simpa using a8,fun j hj=>?_,fun j hj=>?_,(T.out.putLo jo _).below ((vag _ _).drew)⟩
    .by_cases e:j=k
     .subst e
      rw [getElem!_set_same u j _ jo,n6,HX.out];rfl
     rw [getElem!_set_other u k j _ e];exact d8.out j jo
    rw [getElem!_set_other u k j _ jo];exact d4.out j jo
   case measure=>simp [intOf];omega
  have p1:k=m.size:=by omega
  have m3:Hid (u=qui d lo hi (qcn M).toList):=by
   show _=_;rw [moreK_eq,c5.out];refine qrr (by rw [z.out];simp) fun j hj=>?_
   have n7:j < m.size:=by rw [<-z.out];exact hj
   rw [d8.out j jo];simp [n7]
  have a7:Below w.heap.size w wr:=c4.out.grown T.out.grown c4.out.size (fun k hk=>by injection hk with hk;omega);have h5:Hid (wr.heap[w.heap.size + 1]?=_):=(T.out.grown.block _ (qcj c9.out) (fun e=>by injection e with e;omega)).trans c9.out;have i2:Hid (wr.heap[w.heap.size]?=_):=(T.out.grown.block _ (qcj J.out) (fun e=>by injection e with e;omega)).trans J.out;have f3:=RdK.of_holds T.out.holds T.out.lt1;have b8:RdK qae 2 wr.heap.size wr Aa (mrgK ats N):=(b3.out.blocks (vaa _) (fun i hi=>T.out.grown.block i jo (fun e=>by injection e with e;have:=m6.out;omega))).mono (vax l7 T.out.grown.size);have P:=qxj A1 c1 rs (some ⟨gm,0,none⟩) j0 u wr ((H1.out.below a7).mono a7.size) f3 b5.out (by rw [z.out];omega);rw [z.out] at P;have f7:=hI P;have g1:=hI a7;have i8:=hI f3;have b4:=hI b8;clear P a7 f3 b8;go_wp2_with fail;refine f7.out.mono ?_;rintro e w9 ⟨v9,L,rfl,j5,j6,⟨Al,j1,rfl,l5,o3⟩,s⟩;have d5:=hI j5;have d9:=hI j6;have i7:=hI l5;have l9:=hI (qaa g1.out s);have h8:=hI (qak i2.out s);have g7:=hI (qak h5.out s);have e6:=hI ((i8.out.below s).mono s.size);have e3:=hI ((b4.out.below s).mono s.size);clear j5 j6 l5 o3 s i2 h5 b4 i8 f7 g1 b3 c4 J c9 o7 o8 o9 fb;have g4:=hI (show u.size=m.size from z.out);go_wp2
  go_loopw [84] (fun iv wr=>∃ j:Nat,iv=.int .i64 (j:Int)/\j<=m.size/\Below w9.heap.size w9 wr) (fun i _=>m.size - (intOf i).toNat)
  case atStart=>exact ⟨0,rfl,vaj _,vag _ _⟩
  case round =>
   obtain ⟨j,rfl,hj,hB⟩:=hrel;have F:=hI hB;clear hB;by_cases b7:j < m.size
   .have jz:(j:Int) < (m.size:Int):=by omega
    have k5:j < u.size:=by rw [g4.out];exact b7
    obtain ⟨b,l,e,_,f⟩:=(e6.out.below F.out).at_ (i:=j) k5;injection e with e
    injection e with eb eo
    subst eb eo;have e0:=f 0 jo;have e1:=f 1 jo;have hY:u[j]!.1<=u[j]!.2->qbg L u[j]!.1=true:=fun n9=>by
     have hL:=d9.out;have hD:=g4.out;rw [d5.out.has jo];unfold pAdd;rw [vav,vcd,qhe];have a1:=d8.out j jo;have a2:m[j]!.2<=hi:=by
      rw [<-c5.out];have hm:(betL lo hi (lo + 1) (qcn M).toList).toArray[j]! ∈ betL lo hi (lo + 1) (qcn M).toList:=by
       have n8:j < (betL lo hi (lo + 1) (qcn M).toList).toArray.size:=by rw [c5.out];exact b7
       rw [vae _ j n8];simp
      exact quh lo hi _ _ _ hm
     have a3:u[j]!.2=m[j]!.2:=by rw [a1];rfl
     have a4:u[j]!.1=max m[j]!.1 (d + 1):=by rw [a1];rfl
     refine ⟨by omega,Or.inr (qqm k5 ?_)⟩;unfold qcg;rw [vbj];exact ⟨vdo _,n9⟩
    have HY:=hI hY;clear hY;generalize u[j]! = y at e0 e1 HY;simp only [vcc,vak,encR,vac,vaf] at e0 e1;clear f;by_cases hy:y.1<=y.2
    .have o5:decide (y.1<=y.2)=true:=by simpa using hy
     have hh:=fun W (U:Below wr.heap.size wr W)=>qkc Al j1 L y.1 W ((i7.out.below (qaa F.out U)).mono (qaa F.out U).size)
     rw [HY.out hy] at hh;have HH:=hI hh;clear hy hh HY;go_wp2_with fail;refine (HH.out _ (bel1 _ _)).mono ?_;rintro e q1 ⟨rfl,j8⟩;go_wp2;go_roundw
     case rel=>exact ⟨j + 1,by go_num,by omega,qaa (qab F.out _) j8⟩
     case measure=>simp [intOf];omega
    have o5:decide (y.1<=y.2)=false:=vab hy;clear hy HY;go_wp2;go_roundw
    case rel=>exact ⟨j + 1,by go_num,by omega,qab F.out _⟩
    case measure=>simp [intOf];omega
   have o1:decide ((j:Int) < (m.size:Int))=false:=vab jo;have p0:=qmi ats N;have q4:decide ((400:Int) < ((mrgK ats N).size:Int))=false:=vab jo;obtain ⟨⟨k0,k1,k2⟩,_⟩:=blk3 (qak h8.out F.out);have d0:=hI (qak g7.out F.out);have m4:=hI (form_K d Al j1 L Aa (mrgK ats N).size ca wr ((i7.out.below F.out).mono F.out.size));have i6:=hI ((e3.out.below F.out).mono F.out.size);go_wp2_with fail;refine m4.out.mono ?_;rintro e q2 ⟨Ao,f6,co,rfl,O,l6,l3,e9,p⟩;have K:=hI O;have n1:=hI l6;have n0:=hI l3;have I:Hid (∀ g l,Ao=some ⟨g,l,none⟩->g≠w.heap.size + 1):=fun g l e=>by
    have h1:=e9 g l e;have h2:=qcj d0.out;omega
   have g5:Hid (∀ g l,Ao=some ⟨g,l,none⟩->w.heap.size<=g):=fun g l e=>by
    have h1:=e9 g l e;have h2:=qcj d0.out;omega
   have e4:=hI ((i6.out.below p).mono p.size);have f8:=hI (qaa (qaa l9.out F.out) p);obtain ⟨⟨m0,m1,m2⟩,f0⟩:=blk3 (qak d0.out p);clear O l6 l3 e9 p k0 k1 k2;go_wp2;refine vau (v:=.tuple #[.agg #[.int .i64 (preE L d),.slice Ao f6.size co,.slice Aa (mrgK ats N).size ca],.int .i64 0]) (by simp [results,results30,go_sem,m0,m1,m2]) rfl ⟨_,⟨preE L d,f6,mrgK ats N⟩,rfl,?_,?_,?_,?_⟩
   .refine ⟨Ao,co,Aa,ca,rfl,?_,?_,n0.out,m9.out,g5.out,fun g l e=>by have:=h6.out g l e;omega⟩
    .exact (((n1.out.far _ _ I.out).far _ _ I.out).far _ _ I.out).mono js
    have f2:∀ g l,Aa=some ⟨g,l,none⟩->g≠w.heap.size + 1:=fun g l e=>by have:=h6.out g l e;omega
    exact (((e4.out.far _ _ f2).far _ _ f2).far _ _ f2).mono js
   .have hL:=d9.out
    have j2:mrgK ats N=allK ⟨d,rs,ats⟩ h:=by unfold allK;rw [<-m5.out]
    refine ⟨L,d5.out.congr (fun n=>?_),by omega,⟨rfl,K.out,j2⟩⟩;rw [m3.out,<-j4.out,<-m8.out];exact more_p HA.out.chk l2 HA.out.up n
   .have hL:=d9.out
    have t:qam L=0:=d5.out.set jo;have hp:=(qqk t d).1;have hc:=(qlp t (b:=preE L d) jo K.out).2;show f6.size<=_;omega
   exact ((f8.out.setCell js _).setCell js _).setCell js _
theorem qum (d:Int) (rs ats:Array (Int×Int)) (A1:Option Addr) (c1:Nat) (M:Option Addr) (c2:Nat) (ids:Array Int) (A3:Option Addr) (c3:Nat) (w:World) (h1:RdK encR 2 w.heap.size w A1 rs) (h2:RdK qae 2 w.heap.size w M ats) (h3:RdI_R w.heap.size w A3 ids)
 (hk:ChkP ⟨d,rs,ats⟩) (s1:rs.size<=500) (s3:ids.size<=100000) :
 Calls prog 85 #[.agg #[.int .i64 d,.slice A1 rs.size c1,.slice M ats.size c2],.slice A3 ids.size c3] w fun e s=>∃ v r,e=.returned v/\KnF w.heap.size s v r/\SetR ⟨d,rs,ats⟩ ids r/\r.rs.size<=rs.size + ats.size/\Below w.heap.size w s:=by
 obtain ⟨i0,g1,g4,g5,g6⟩:=vbo qda;have HC:Hid (∀ W,Below w.heap.size w W->Calls prog 67 #[.agg #[.int .i64 d,.slice A1 rs.size c1,.slice M ats.size c2]] W fun e s=>e=.returned (.int .i64 (chkE ⟨d,rs,ats⟩))/\Below W.heap.size W s):=fun W q=>qgo d rs ats A1 c1 M c2 W ((h1.below q).mono q.size) ((h2.below q).mono q.size)
 have q0:=qlz ⟨d,rs,ats⟩;rw [qco.2 hk] at q0;have s2:ats.size<=400:=hk.sz;have HP:=hI hk;have e5:Hid (qam rs=0):=hk.rs;have b0:0<=d:=hk.b0;have H1:=hI h1;have H2:=hI h2;have H3:=hI h3;clear h1 h2 h3 hk;generalize chkE ⟨d,rs,ats⟩=ce at q0 HC;have HT:=hI (three_blk w (.cells #[.int .i64 d,.slice A1 rs.size c1,.slice M ats.size c2] 66) (.cells #[.slice A3 ids.size c3] 26) (.cells #[.int .i64 0,.slice none 0 0,.slice none 0 0] 66));go_in;go_wp2_with fail;refine (HC.out _ (qab (qab (bel1 w _) _) _)).mono ?_;rintro e w1 ⟨rfl,a6⟩;have N:=hI (qak HT.out.1 a6);have d8:=hI (qak HT.out.2.1 a6);have c5:=hI (qak HT.out.2.2 a6);have I:=hI (qaa (qab (qab (bel1 w _) _) _) a6);have g9:=qcj c5.out;have f3:∀ W x,Below w1.heap.size w1 W->Calls prog 168 #[.agg #[.int .i64 x.1,.int .i64 x.2],.pointer (some ⟨w.heap.size + 1,0,none⟩)] W fun e s=>e=.returned (.bool (qds ids x))/\Below W.heap.size W s:=fun W x q=>by
  have a5:=qak d8.out q;exact qqz ids A3 c3 x (w.heap.size + 1) W (qcj a5) (blk1 a5) (H3.out.next (qaa I.out q)) jo
 have f7:=hI f3;clear a6 HC HT f3;obtain ⟨⟨u0,u1,u2⟩,_⟩:=blk3 N.out;go_wp2
 go_loopw [6,18] (fun ov iv wr=>StL ids ats w1 ov iv wr) (fun _ i _=>ats.size - (intOf i).toNat)
 case atStart=>exact ⟨0,#[],rfl,vaj _,vaa _,rfl,qbk _ _ _ _ _,vag _ _⟩
 case round =>
  clear u0 u1 u2;obtain ⟨j,m,rfl,hj,h6,R,S,hB⟩:=hrel;have HE:=hI R;have HO:=hI S;have HB:=hI hB;clear R S hB;by_cases f4:j < ats.size
  .have jz:(j:Int) < (ats.size:Int):=by omega
   obtain ⟨b,k,rfl,b8,f⟩:=(H2.out.below (qaa I.out HB.out)).at_ f4;have e0:=f 0 jo;have e1:=f 1 jo;have HD:=hI (qfr ats j f4);generalize ats[j]! = x at e0 e1 HD;simp only [vak,qae,vac,vaf] at e0 e1;clear f;have hc:=f7.out (wr.alloc (.cells #[.int .i64 x.1,.int .i64 x.2] 29)) x (qab HB.out _);cases hd:qds ids x
   .rw [hd] at hc
    have HN:Hid (qoa ids ats.toList=m.toList ++ qoa ids (ats.toList.drop (j + 1))):=by
     show _=_;rw [HE.out,HD.out];unfold qoa;rw [vfi,hd];rfl
    have Y:=hI hc;clear hd hc;go_wp2_with fail;refine Y.out.mono ?_;rintro e w4 ⟨rfl,U⟩;have T:=qaa (bel1 wr _) U;have V:=hI T;clear U Y T;go_wp2;go_roundw
    case rel=>exact ⟨j + 1,m,by go_num,by omega,by omega,HN.out,qjz HO.out V.out,qaa HB.out V.out⟩
    case measure=>simp [intOf];omega
   rw [hd] at hc;have HN:Hid (qoa ids ats.toList=(m.push (x.1,x.1)).toList ++ qoa ids (ats.toList.drop (j + 1))):=by
    show _=_;rw [HE.out,HD.out];unfold qoa;rw [vfi,hd,vdw,veo];rfl
   have Y:=hI hc;clear hd hc;go_wp2_with fail;refine Y.out.mono ?_;rintro e w4 ⟨rfl,U⟩;have v0:w4.cell? ⟨wr.heap.size,0,none⟩=some (.int .i64 x.1):=(U.cell (p:=⟨wr.heap.size,0,none⟩) js).trans (by rw [qau];rfl);have T:=qaa (bel1 wr _) U;have V:=hI (qaa HB.out T);have e8:=qjz HO.out T;have g7:w1.heap.size<=w4.heap.size:=V.out.size;clear U Y T;go_wp2_with (at_builtin;refine vay _ rfl _ _ 64 rfl w1.heap.size 124 i0 (.agg #[.int .i64 0,.int .i64 0]) 2 16 underlying64 g1 g4 g5 g6 rfl jd _ _ _ rfl (e8.alloc _) ⟨w4.heap.size,0,none⟩ 1 1 [.int .i64 x.1,.int .i64 x.1] rfl rfl (qcb w4 _ _ _) jV jl jo jso ?_;intro v' D d5 d3 _);go_roundw
   case rel=>exact ⟨j + 1,m.push (x.1,x.1),by go_num,by omega,by simp;omega,HN.out,(by rw [vbk,qax qbj];exact d5),qrq V.out g7 e8 d3⟩
   case measure=>simp [intOf];omega
  have g8:decide ((j:Int) < (ats.size:Int))=false:=vab jo;have a4:Hid (m=qjq ⟨d,rs,ats⟩ ids):=by
   show _=_;have h:=HE.out;rw [vcl jso] at h;have e:m.toList=qoa ids ats.toList:=by rw [h];simp [qoa]
   apply vda.1;rw [e];rfl
  obtain ⟨Am,cm,rfl,d6,_⟩:=qaq HO.out;have b6:=qaa I.out HB.out;have d7:=hI (qxj A1 c1 rs Am cm m wr ((H1.out.below b6).mono b6.size) d6 e5.out jo);have d9:=hI d6;have f6:=hI b6;obtain ⟨⟨u0,u1,u2⟩,_⟩:=blk3 (qak N.out HB.out);clear d6 b6 HO;go_wp2_with fail;refine d7.out.mono ?_;rintro e z ⟨v3,L,rfl,e6,e7,⟨Al,cl,rfl,f5,g3⟩,b7⟩;have a2:=hI e6;have c6:=hI e7;have c9:=hI f5;have J:=hI (qaa HB.out b7);have e3:=hI ((d9.out.below b7).mono b7.size);clear e6 e7 f5 g3 b7 d7 d9 u0 u1 u2 f6 HB;have HH:Hid (∀ x ∈ m.toList,qbg L x.1=true):=fun x hx=>by
   have hL:=c6.out;rw [a2.out.has jo];unfold pAdd;rw [vav,vcd,qhe];rw [a4.out] at hx;obtain ⟨a,ha,rfl⟩:=vcp.1 (show x ∈ List.map _ _ from hx);have hr:=((qbs _ _ _).1 HP.out.up).2 a (vck.1 ha).1;have q:=hr.1;have f1:=hr.2.1;simp only at q f1;obtain ⟨i,hi,g2⟩:=vbt.1 hx;have d4:i < m.size:=by rw [a4.out];simpa [qjq] using hi
   refine ⟨⟨by show 1<=a.1;omega,f1⟩,Or.inr (qqm d4 ?_)⟩;have e:m[i]! = (a.1,a.1):=by
    rw [vae m i d4]
    have:m.toList[i]'(by simpa using d4)=(a.1,a.1):=by
     have e2:m.toList=(qjq ⟨d,rs,ats⟩ ids).toList:=by rw [a4.out]
     rw [List.getElem_of_eq e2,g2]
    simpa using this
   rw [e];unfold qcg;simp
  have e9:∀ B v W,z.heap.size<=B->Below w1.heap.size w1 W->W.ownsRow B 29 2 v ats.size (flatK qae 2 ats).toList->B<=W.heap.size->Calls prog 69 #[v,.func (.func 168) #[] #[.pointer (some ⟨w.heap.size + 1,0,none⟩)]] W fun e s=>∃ A c,e=.returned (.slice A (qfj ⟨d,rs,ats⟩ ids).size c)/\RdK qae 2 s.heap.size s A (qfj ⟨d,rs,ats⟩ ids)/\(A=none->c=0)/\(∀ g k,A=some ⟨g,k,none⟩->B<=g)/\Below B W s:=fun B v W h9 q S hz =>
   qpj (qds ids) 168 #[.pointer (some ⟨w.heap.size + 1,0,none⟩)] (veb func168 jk rfl) v ats B W (fun W' x b8 h7=>by
    have h8:=J.out.size;have a5:W'.heap[w.heap.size + 1]?=_:=(b8 _ jo).trans (qak d8.out q);refine qqz ids A3 c3 x (w.heap.size + 1) W' (qcj a5) (blk1 a5) (fun h0=>?_) jo;obtain ⟨b,k,e,hl,hc⟩:=H3.out.next I.out h0
    exact ⟨b,k,e,by omega,fun t ht=>(vdf (a:=⟨b,k + t,none⟩) (b8 b jo)).trans ((q.cell (p:=⟨b,k + t,none⟩) hl).trans (hc t ht))⟩) S hz jo
  have e4:=hI e9;clear e9;obtain ⟨⟨u0,u1,u2⟩,_⟩:=blk3 (qak N.out J.out);by_cases hm:0 < m.size
  .have q5:decide ((0:Int) < (m.size:Int))=true:=vah jo
   obtain ⟨b,k,rfl,b8,f⟩:=e3.out.at_ (i:=0) hm;have e0:=f 0 jo;have hh:=HH.out m[0]! (by rw [vae m 0 hm];simp);generalize m[0]! = y at e0 hh;simp only [Nat.zero_mul,vak,encR,vac] at e0;have hg:=qkc Al cl L y.1 z c9.out;rw [hh] at hg;have HG:=hI hg;clear f hh hg;go_wp2_with fail;refine HG.out.mono ?_;rintro e D ⟨rfl,f2⟩;have u:=hI f2;clear f2 HG e0 u0 u1 u2;obtain ⟨⟨u0,u1,u2⟩,_⟩:=blk3 (qak (qak N.out J.out) u.out);have a1:=hI (qak (qak c5.out J.out) u.out);have C:=hI (qaa J.out u.out);have KS:Hid (∀ W,Below D.heap.size D W->W.cell? ⟨w.heap.size,0,none⟩=some (.int .i64 d)/\W.cell? ⟨w.heap.size,2,none⟩=some (.slice M ats.size c2)):=fun W q=>by
    obtain ⟨⟨p0,p1,p2⟩,_⟩:=blk3 (qak (qak (qak N.out J.out) u.out) q);exact ⟨p0,p2⟩
   have KT:Hid (∀ W a b c,Below D.heap.size D W->(((W.setCell ⟨w.heap.size + 1 + 1,0,none⟩ a).setCell ⟨w.heap.size + 1 + 1,1,none⟩ b).setCell ⟨w.heap.size + 1 + 1,2,none⟩ c).cell? ⟨w.heap.size,0,none⟩=some (.int .i64 d)/\(((W.setCell ⟨w.heap.size + 1 + 1,0,none⟩ a).setCell ⟨w.heap.size + 1 + 1,1,none⟩ b).setCell ⟨w.heap.size + 1 + 1,2,none⟩ c).cell? ⟨w.heap.size,2,none⟩=some (.slice M ats.size c2)):=fun W a b c q=>by
    obtain ⟨p0,p2⟩:=KS.out W q;have l:∀ i j,(⟨w.heap.size + 1 + 1,i,none⟩:Addr).block≠(⟨w.heap.size,j,none⟩:Addr).block:=fun i j=>by show w.heap.size + 1 + 1≠w.heap.size;omega
    exact ⟨by rw [World.cell?_setCell_far _ _ _ _ (l _ _),World.cell?_setCell_far _ _ _ _ (l _ _),World.cell?_setCell_far _ _ _ _ (l _ _)];exact p0,by rw [World.cell?_setCell_far _ _ _ _ (l _ _),World.cell?_setCell_far _ _ _ _ (l _ _),World.cell?_setCell_far _ _ _ _ (l _ _)];exact p2⟩
   have b9:Hid (∀ W,Below D.heap.size D W->Calls prog 65 #[.slice M ats.size c2] W fun e s=>∃ v,e=.returned v/\s.ownsRow D.heap.size 29 2 v ats.size (flatK qae 2 ats).toList/\Below D.heap.size D s):=fun W q=>(qhm M c2 ats W ((H2.out.below (qaa I.out (qaa C.out q))).mono (qaa I.out (qaa C.out q)).size) jo).mono fun e s ⟨v,R,ho,P⟩=>⟨v,R,qbx ho q.size,qaa q P⟩
   have c0:Hid (∀ W v,Below D.heap.size D W->W.ownsRow D.heap.size 29 2 v ats.size (flatK qae 2 ats).toList->Calls prog 69 #[v,.func (.func 168) #[] #[.pointer (some ⟨w.heap.size + 1,0,none⟩)]] W fun e s=>∃ A c,e=.returned (.slice A (qfj ⟨d,rs,ats⟩ ids).size c)/\RdK qae 2 s.heap.size s A (qfj ⟨d,rs,ats⟩ ids)/\(A=none->c=0)/\(∀ g k,A=some ⟨g,k,none⟩->D.heap.size<=g)/\Below D.heap.size D s):=fun W v q ho=>(e4.out D.heap.size v W u.out.size (qaa C.out q) ho q.size).mono fun e s ⟨A,c,R,hr,hn,hf,P⟩=>⟨A,c,R,hr,hn,hf,q.trans P⟩
   have c4:Hid (∀ W A n c,Below D.heap.size D W->Calls prog 76 #[.int .i64 d,.slice Al L.size cl,.slice A n c] W fun e s=>∃ H m O,e=.returned (.agg #[.int .i64 (preE L d),.slice H m.size O,.slice A n c])/\LessE L (1,preE L d) m/\RdK encR 2 s.heap.size s H m/\(H=none->O=0)/\(∀ g k,H=some ⟨g,k,none⟩->D.heap.size<=g)/\Below W.heap.size W s):=fun W A n c q=>(form_K d Al cl L A n c W ((c9.out.below (qaa u.out q)).mono (qaa u.out q).size)).mono fun e s ⟨H,o,O,R,h1,h2,h3,h4,h5⟩=>⟨H,o,O,R,h1,h2,h3,(fun g k e=>vax q.size (h4 g k e)),h5⟩
   have f8:Below D.heap.size D D:=vag _ _;go_wp2_with fail;go_region_held3 (fun W=>W.cell? ⟨w.heap.size,0,none⟩=some (.int .i64 d)/\W.cell? ⟨w.heap.size,2,none⟩=some (.slice M ats.size c2)) (first | exact KS.out _ jN | exact KS.out _ (vaq jN) | exact KT.out _ _ _ _ jN | go_keep)
    (first
      | (go_at_call 65;((with_reducible refine (b9.out _ jy).mono ?_);rintro e wa ⟨va,rfl,b3,f9⟩;have a3:=hI b3;clear b3))
      | (go_at_call 69;((with_reducible refine (c0.out _ _ jy (by first | exact a3.out | exact a3.out.drew)).mono ?_);rintro e wb ⟨Ab,cb,rfl,b4,b1,a8,d2⟩;have d0:=hI b4;have c7:=hI b1;have Z:=hI a8;clear b4 b1 a8))
      | (go_at_call 76;((with_reducible refine (c4.out _ _ _ _ jy).mono ?_);rintro e wd ⟨H,G,O,rfl,F,b5,b2,a9,Q⟩;have E:=hI F;have d1:=hI b5;have c8:=hI b2;have a0:=hI a9;have X:Hid (Below wb.heap.size wb wd):=Q;have a7:Below D.heap.size D wd:=qaa d2 Q;obtain ⟨⟨m0,m1,m2⟩,f0⟩:=blk3 (qak a1.out a7);clear F b5 b2 a9 Q)))
   go_wp2;have hL:=c6.out;have g0:w.heap.size + 2 < D.heap.size:=qcj a1.out;refine vau (v:=.agg #[.int .i64 (preE L d),.slice H G.size O,.slice Ab (qfj ⟨d,rs,ats⟩ ids).size cb]) (by simp [results,results85,go_sem,m0,m1,m2]) rfl ⟨_,⟨preE L d,G,qfj ⟨d,rs,ats⟩ ids⟩,rfl,?_,?_,?_,?_⟩
   .refine ⟨H,O,Ab,cb,rfl,?_,?_,c8.out,c7.out,fun g k e=>by have:=a0.out g k e;omega,fun g k e=>by have:=Z.out g k e;omega⟩
    .have l:∀ g k,H=some ⟨g,k,none⟩->g≠w.heap.size + 1 + 1:=fun g k e=>by have:=a0.out g k e;omega
     exact (((d1.out.far _ _ l).far _ _ l).far _ _ l).mono js
    have l:∀ g k,Ab=some ⟨g,k,none⟩->g≠w.heap.size + 1 + 1:=fun g k e=>by have:=Z.out g k e;omega
    exact (((((d0.out.below X.out).mono X.out.size).far _ _ l).far _ _ l).far _ _ l).mono js
   .refine ⟨L,a2.out.congr (fun n=>?_),by omega,⟨rfl,E.out,rfl⟩⟩
    rw [a4.out];exact setl_p HP.out n
   .have K:qam L=0:=a2.out.set jo
    have hp:=(qqk K d).1;have hc:=(qlp K (b:=preE L d) jo E.out).2;show G.size<=_;omega
   exact (((qaa I.out (qaa C.out a7)).setCell jso _).setCell jso _).setCell jso _
  have q5:decide ((0:Int) < (m.size:Int))=false:=vab jo;have i1:decide (0 < m.size)=false:=vab hm;have u:Hid (Below z.heap.size z z):=vag _ _;clear u0 u1 u2;obtain ⟨⟨u0,u1,u2⟩,_⟩:=blk3 (qak (qak N.out J.out) u.out);have a1:=hI (qak (qak c5.out J.out) u.out);have C:=hI (qaa J.out u.out);have KS:Hid (∀ W,Below z.heap.size z W->W.cell? ⟨w.heap.size,0,none⟩=some (.int .i64 d)/\W.cell? ⟨w.heap.size,2,none⟩=some (.slice M ats.size c2)):=fun W q=>by
   obtain ⟨⟨p0,p1,p2⟩,_⟩:=blk3 (qak (qak (qak N.out J.out) u.out) q);exact ⟨p0,p2⟩
  have KT:Hid (∀ W a b c,Below z.heap.size z W->(((W.setCell ⟨w.heap.size + 1 + 1,0,none⟩ a).setCell ⟨w.heap.size + 1 + 1,1,none⟩ b).setCell ⟨w.heap.size + 1 + 1,2,none⟩ c).cell? ⟨w.heap.size,0,none⟩=some (.int .i64 d)/\(((W.setCell ⟨w.heap.size + 1 + 1,0,none⟩ a).setCell ⟨w.heap.size + 1 + 1,1,none⟩ b).setCell ⟨w.heap.size + 1 + 1,2,none⟩ c).cell? ⟨w.heap.size,2,none⟩=some (.slice M ats.size c2)):=fun W a b c q=>by
   obtain ⟨p0,p2⟩:=KS.out W q;have l:∀ i j,(⟨w.heap.size + 1 + 1,i,none⟩:Addr).block≠(⟨w.heap.size,j,none⟩:Addr).block:=fun i j=>by show w.heap.size + 1 + 1≠w.heap.size;omega
   exact ⟨by rw [World.cell?_setCell_far _ _ _ _ (l _ _),World.cell?_setCell_far _ _ _ _ (l _ _),World.cell?_setCell_far _ _ _ _ (l _ _)];exact p0,by rw [World.cell?_setCell_far _ _ _ _ (l _ _),World.cell?_setCell_far _ _ _ _ (l _ _),World.cell?_setCell_far _ _ _ _ (l _ _)];exact p2⟩
  have b9:Hid (∀ W,Below z.heap.size z W->Calls prog 65 #[.slice M ats.size c2] W fun e s=>∃ v,e=.returned v/\s.ownsRow z.heap.size 29 2 v ats.size (flatK qae 2 ats).toList/\Below z.heap.size z s):=fun W q=>(qhm M c2 ats W ((H2.out.below (qaa I.out (qaa C.out q))).mono (qaa I.out (qaa C.out q)).size) jo).mono fun e s ⟨v,R,ho,P⟩=>⟨v,R,qbx ho q.size,qaa q P⟩
  have c0:Hid (∀ W v,Below z.heap.size z W->W.ownsRow z.heap.size 29 2 v ats.size (flatK qae 2 ats).toList->Calls prog 69 #[v,.func (.func 168) #[] #[.pointer (some ⟨w.heap.size + 1,0,none⟩)]] W fun e s=>∃ A c,e=.returned (.slice A (qfj ⟨d,rs,ats⟩ ids).size c)/\RdK qae 2 s.heap.size s A (qfj ⟨d,rs,ats⟩ ids)/\(A=none->c=0)/\(∀ g k,A=some ⟨g,k,none⟩->z.heap.size<=g)/\Below z.heap.size z s):=fun W v q ho=>(e4.out z.heap.size v W u.out.size (qaa C.out q) ho q.size).mono fun e s ⟨A,c,R,hr,hn,hf,P⟩=>⟨A,c,R,hr,hn,hf,q.trans P⟩
  have c4:Hid (∀ W A n c,Below z.heap.size z W->Calls prog 76 #[.int .i64 d,.slice Al L.size cl,.slice A n c] W fun e s=>∃ H m O,e=.returned (.agg #[.int .i64 (preE L d),.slice H m.size O,.slice A n c])/\LessE L (1,preE L d) m/\RdK encR 2 s.heap.size s H m/\(H=none->O=0)/\(∀ g k,H=some ⟨g,k,none⟩->z.heap.size<=g)/\Below W.heap.size W s):=fun W A n c q=>(form_K d Al cl L A n c W ((c9.out.below (qaa u.out q)).mono (qaa u.out q).size)).mono fun e s ⟨H,o,O,R,h1,h2,h3,h4,h5⟩=>⟨H,o,O,R,h1,h2,h3,(fun g k e=>vax q.size (h4 g k e)),h5⟩
  have f8:Below z.heap.size z z:=vag _ _;go_wp2_with fail;go_region_held3 (fun W=>W.cell? ⟨w.heap.size,0,none⟩=some (.int .i64 d)/\W.cell? ⟨w.heap.size,2,none⟩=some (.slice M ats.size c2)) (first | exact KS.out _ jN | exact KS.out _ (vaq jN) | exact KT.out _ _ _ _ jN | go_keep)
   (first
     | (go_at_call 65;((with_reducible refine (b9.out _ jy).mono ?_);rintro e wa ⟨va,rfl,b3,f9⟩;have a3:=hI b3;clear b3))
     | (go_at_call 69;((with_reducible refine (c0.out _ _ jy (by first | exact a3.out | exact a3.out.drew)).mono ?_);rintro e wb ⟨Ab,cb,rfl,b4,b1,a8,d2⟩;have d0:=hI b4;have c7:=hI b1;have Z:=hI a8;clear b4 b1 a8))
     | (go_at_call 76;((with_reducible refine (c4.out _ _ _ _ jy).mono ?_);rintro e wd ⟨H,G,O,rfl,F,b5,b2,a9,Q⟩;have E:=hI F;have d1:=hI b5;have c8:=hI b2;have a0:=hI a9;have X:Hid (Below wb.heap.size wb wd):=Q;have a7:Below z.heap.size z wd:=qaa d2 Q;obtain ⟨⟨m0,m1,m2⟩,f0⟩:=blk3 (qak a1.out a7);clear F b5 b2 a9 Q)))
  go_wp2;have hL:=c6.out;have g0:w.heap.size + 2 < z.heap.size:=qcj a1.out;refine vau (v:=.agg #[.int .i64 (preE L d),.slice H G.size O,.slice Ab (qfj ⟨d,rs,ats⟩ ids).size cb]) (by simp [results,results85,go_sem,m0,m1,m2]) rfl ⟨_,⟨preE L d,G,qfj ⟨d,rs,ats⟩ ids⟩,rfl,?_,?_,?_,?_⟩
  .refine ⟨H,O,Ab,cb,rfl,?_,?_,c8.out,c7.out,fun g k e=>by have:=a0.out g k e;omega,fun g k e=>by have:=Z.out g k e;omega⟩
   .have l:∀ g k,H=some ⟨g,k,none⟩->g≠w.heap.size + 1 + 1:=fun g k e=>by have:=a0.out g k e;omega
    exact (((d1.out.far _ _ l).far _ _ l).far _ _ l).mono js
   have l:∀ g k,Ab=some ⟨g,k,none⟩->g≠w.heap.size + 1 + 1:=fun g k e=>by have:=Z.out g k e;omega
   exact (((((d0.out.below X.out).mono X.out.size).far _ _ l).far _ _ l).far _ _ l).mono js
  .refine ⟨L,a2.out.congr (fun n=>?_),by omega,⟨rfl,E.out,rfl⟩⟩
   rw [a4.out];exact setl_p HP.out n
  .have K:qam L=0:=a2.out.set jo
   have hp:=(qqk K d).1;have hc:=(qlp K (b:=preE L d) jo E.out).2;show G.size<=_;omega
  exact (((qaa I.out (qaa C.out a7)).setCell jso _).setCell jso _).setCell jso _
