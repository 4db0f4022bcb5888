/- Texts that the law leans on. -/
import Derived.Deep.AppendLies
import Derived.Test.YtdcfffhoajmafaaGreatQSortK
set_option maxRecDepth 100000
set_option maxHeartbeats 8000000
namespace Go.Proofs.YtdcfffhoajmafaaGreat
open Go.RowKit Go.Sort Go.Lib Go.Proofs.Tryz
attribute [local go_sem ↓] Go.wp_at_zero Go.wp_at_succ
theorem qbq {w:World} {a base':Nat} {e:TypeId} {b:Nat} {v:Value} {n:Nat} {f:List Value} (h:w.ownsRow a e b v n f) (i:base'<=a):w.ownsRow base' e b v n f :=
 ⟨h.1,h.2.imp id fun ⟨g,c,d,j,k,l⟩=>⟨g,c,d,j,vax i k,l⟩⟩
section
variable {w W W':World} {x:Int×Int} {e:TypeId} {o:Obj} {H:Nat}
theorem one2 (b:W.cell? ⟨H,0,none⟩=some (.int .i64 x.1)) (c:W.cell? ⟨H,1,none⟩=some (.int .i64 x.2)):RdK qae 2 (H + 1) W (some ⟨H,0,none⟩) #[x]:=fun _ =>
 ⟨H,0,rfl,vcr _,fun t d=>by
  have a:t=0\/t=1:=by simp at d;omega
  rcases a with rfl | rfl
  .rw [get_flatK _ _ _ _ js];exact b
  rw [get_flatK _ _ _ _ js];exact c⟩
theorem qkw (a:World) (x:Int×Int) (e:TypeId):RdK qae 2 (a.heap.size + 1) (a.alloc (.cells #[.int .i64 x.1,.int .i64 x.2] e)).drew (some ⟨a.heap.size,0,none⟩) #[x]:=one2 (qau a _ _ 0) (qau a _ _ 1)
theorem qsw (b:((w.alloc o).alloc (.cells #[.int .i64 x.1,.int .i64 x.2] e)).drew.grownBy W' (Value.slice (some ⟨w.heap.size,0,none⟩) 0 0).ownBlock):RdK qae 2 (w.heap.size + 1 + 1) W' (some ⟨w.heap.size + 1,0,none⟩) #[x]:=by
 have a:w.heap.size + 1=(w.alloc o).heap.size:=by simp
 refine one2 ?_ ?_
 .rw [b.cell_far ⟨w.heap.size + 1,0,none⟩ js (by simp [Value.ownBlock]),a]
  exact qau (w.alloc o) _ _ 0
 rw [b.cell_far ⟨w.heap.size + 1,1,none⟩ js (by simp [Value.ownBlock]),a];exact qau (w.alloc o) _ _ 1
theorem qsx (a:((w.alloc (.cells #[.int .i64 x.1,.int .i64 x.2] e)).alloc o).drew.grownBy W' (Value.slice (some ⟨w.heap.size + 1,0,none⟩) 0 0).ownBlock):RdK qae 2 (w.heap.size + 1) W' (some ⟨w.heap.size,0,none⟩) #[x]:=by
 refine one2 ?_ ?_
 .rw [a.cell_far ⟨w.heap.size,0,none⟩ jso (by simp [Value.ownBlock])]
  exact (vbq (w.alloc (.cells #[.int .i64 x.1,.int .i64 x.2] e)) o ⟨w.heap.size,0,none⟩ js).trans (qau w _ _ 0)
 rw [a.cell_far ⟨w.heap.size,1,none⟩ jso (by simp [Value.ownBlock])];exact (vbq (w.alloc (.cells #[.int .i64 x.1,.int .i64 x.2] e)) o ⟨w.heap.size,1,none⟩ js).trans (qau w _ _ 1)
theorem em2A (w:World) (e:TypeId):(w.alloc (.cells #[] e)).drew.ownsRow w.heap.size e 2 (.slice (some ⟨w.heap.size,0,none⟩) 0 0) (#[]:Array (Int×Int)).size (flatK qae 2 #[]).toList:=(qba w e qae 2).drew
theorem em2B (w:World) (e:TypeId) (o:Obj):((w.alloc (.cells #[] e)).alloc o).drew.ownsRow w.heap.size e 2 (.slice (some ⟨w.heap.size,0,none⟩) 0 0) (#[]:Array (Int×Int)).size (flatK qae 2 #[]).toList:=((qba w e qae 2).alloc o).drew
theorem em2C (w:World) (e:TypeId) (o:Obj) (H:(w.alloc o).heap.size=w.heap.size + 1):((w.alloc o).alloc (.cells #[] e)).drew.ownsRow w.heap.size e 2 (.slice (some ⟨w.heap.size + 1,0,none⟩) 0 0) (#[]:Array (Int×Int)).size (flatK qae 2 #[]).toList:=by
 have:=qbq (qba (w.alloc o) e qae 2).drew (base':=w.heap.size) js
 rw [H] at this;exact this
theorem qkx {g m k B b:Nat} {a:Array (Int×Int)} (h:HoldsK qae 2 W g b a) (j:g < W.heap.size) (i:Below W.heap.size W W') (n:a.size=m) (l:k<=m) (f:g < B):RdK qae 2 B W' (some ⟨g,b,none⟩) (a.toList.take k).toArray:=fun _ =>
 ⟨g,b,rfl,f,fun t d=>by
  have c:(a.toList.take k).toArray.size=k:=by simp;omega
  rw [c] at d;rw [i.cell (p:=⟨g,b + t,none⟩) j,(h t (by rw [size_flatK];omega)).1,get_flatK _ _ a _ jo,get_flatK _ _ (a.toList.take k).toArray _ (by rw [c];exact d)];have e:(a.toList.take k).toArray[t / 2]! = a[t / 2]!:=by
   rw [vae _ _ (by rw [c];omega),vae a _ jo];simp
  rw [e];rfl⟩
theorem qky {g m k B b off:Nat} {a:Array (Int×Int)} (n:HoldsK qae 2 W g b a) (q:g < W.heap.size) (o:Below W.heap.size W W') (s:a.size=m) (r:k<=m) (l:g < B) (u:off=b + k * 2\/k=m):RdK qae 2 B W' (some ⟨g,off,none⟩) (a.toList.drop k).toArray:=fun j =>
 ⟨g,off,rfl,l,fun t d=>by
  have c:(a.toList.drop k).toArray.size=m - k:=by simp;omega
  rw [c] at d j;obtain rfl:off=b + k * 2:=by omega
  have e:b + k * 2 + t=b + (k * 2 + t):=by omega
  rw [o.cell (p:=⟨g,b + k * 2 + t,none⟩) q,e,(n (k * 2 + t) (by rw [size_flatK];omega)).1,get_flatK _ _ a _ jo,get_flatK _ _ (a.toList.drop k).toArray _ (by rw [c];exact d)];have h:(k * 2 + t) / 2=k + t / 2:=by omega
  have i:(k * 2 + t) % 2=t % 2:=by omega
  have f:(a.toList.drop k).toArray[t / 2]! = a[k + t / 2]!:=by
   rw [vae _ _ (by rw [c];omega),vae a _ jo];simp
  rw [f,h,i];rfl⟩
theorem qsy {b m:Nat} {v:Value} {d:Array (Int×Int)} (h:W.ownsRow b e 2 v m (flatK qae 2 d).toList) (q:d.size=m) (j:v≠.slice none 0 0):∃ g a l,v=.slice (some ⟨g,l,none⟩) m a/\m<=a/\g < W.heap.size/\HoldsK qae 2 W g l d:=by
 subst q;obtain ⟨g,a,k,i,o,p⟩:=qbl h j;refine ⟨g,a,0,k,?_,o,p⟩;obtain ⟨_,⟨i,_⟩ | ⟨s,f,n,c,t,u,r,_⟩⟩:=h
 .exact absurd i j
 rw [k] at c;injection c with _ _ e3
 omega
theorem cellsE {g k a:Nat} {b:Array (Int×Int)} (e:HoldsK qae 2 w g a b) (h:g < w.heap.size) (f:Below w.heap.size w W) (hi:k < b.size) (p:ExtW W):p.to.cell? ⟨g,a + k * 2,none⟩=some (.int .i64 b[k]!.1)/\p.to.cell? ⟨g,a + k * 2 + 1,none⟩=some (.int .i64 b[k]!.2):=by
 have d:=f.trans (p.h.mono f.size);exact ⟨(d.cell (p:=⟨g,a + k * 2,none⟩) h).trans ((e.cell (i:=k) (c:=0) hi jd).1),(d.cell (p:=⟨g,a + k * 2 + 1,none⟩) h).trans ((e.cell (i:=k) (c:=1) hi jd).1)⟩
theorem qis {g a:Nat} {f:Array (Int×Int)} (b:HoldsK qae 2 w g a f) (d:g < w.heap.size) (c:Below w.heap.size w W):HoldsK qae 2 W g a f:=fun t e =>
 ⟨(c.cell (p:=⟨g,a + t,none⟩) d).trans (b t e).1,(c.frozen (p:=⟨g,a + t,none⟩) d).trans (b t e).2⟩
theorem qbc {b q:Nat} {u v:Value} (h:b < W.heap.size/\W.cell? ⟨b,q,none⟩=some u/\W.cell? ⟨b,q + 1,none⟩=some v) (a:Below W.heap.size W W'):Below W.heap.size W W'/\W'.cell? ⟨b,q,none⟩=some u/\W'.cell? ⟨b,q + 1,none⟩=some v :=
 ⟨a,(a.cell (p:=⟨b,q,none⟩) h.1).trans h.2.1,(a.cell (p:=⟨b,q + 1,none⟩) h.1).trans h.2.2⟩
end
theorem rSort_any (A:Option Addr) (c:Nat) (d:Array (Int×Int)) (w:World) (h:RdK qae 2 w.heap.size w A d) (hd:d.size<=1000000) :
 Calls prog 99 #[.slice A d.size c] w fun e O=>∃ v,e=.returned v/\O.ownsRow w.heap.size 29 2 v d.size (flatK qae 2 (srtA d)).toList/\Below w.heap.size w O:=by
 have HR:=hI h;clear h;obtain ⟨X,G,H,I,J⟩:=vbo qfq;go_in;go_wp2
 go_loopw [3,4] (fun v i wr=>∃ (m:Nat) (D:Array (Int×Int)),i=.int .i64 m/\m<=d.size/\wr.ownsRow w.heap.size 29 2 v m (flatK qae 2 D).toList/\InsP d m D/\Below w.heap.size w wr) (fun _ i _=>d.size - (intOf i).toNat)
 case atStart=>exact ⟨0,#[],rfl,vaj _,qbk _ _ _ _ _,InsP.nil d,vag _ _⟩
 case round =>
  obtain ⟨m,D,rfl,hm,L,a2,hB⟩:=hrel;have f:Hid (D.size=m):=a2.size hm;have HI:=hI a2;clear a2;by_cases a1:m < d.size
  .obtain ⟨b,n,rfl,a8,a4⟩:=(HR.out.below hB).at_ a1
   have x0:=a4 0 jd;have x1:=a4 1 jd;clear a4;obtain ⟨x,hx⟩:∃ x,d[m]! = x:=⟨_,rfl⟩
   rw [hx] at x0 x1;simp only [vak,qae,vac,vaf] at x0 x1;have F:=hI hx;clear hx;have kz:(m:Int) < (d.size:Int):=by omega
   obtain ⟨P,T⟩:∃ W,Hid (W=wr):=⟨wr,rfl⟩
   have B:Hid (b < P.heap.size/\P.cell? ⟨b,n + m * 2,none⟩=some (.int .i64 x.1)/\P.cell? ⟨b,n + m * 2 + 1,none⟩=some (.int .i64 x.2)):=by
    rw [T.out];exact ⟨vad a8 hB.size,x0,x1⟩
   have Q:Hid (Below w.heap.size w P):=by rw [T.out];exact hB
   clear hB x0 x1;by_cases hn:u3=.slice none 0 0
   .subst hn
    have h0:m=0:=by
     obtain ⟨_,⟨_,h0⟩ | ⟨g,C,b2,hv,_⟩⟩:=L
     .exact h0
     cases hv
    subst h0;clear L;obtain rfl:D=#[]:=var f.out;go_wp2_with fail
    go_loopw [5] (fun kk wr=>kk=.int .i64 0/\Below P.heap.size P wr) (fun _ _=>0)
    case atStart=>exact ⟨rfl,by rw [T.out];exact vag _ _⟩
    case round =>
     obtain ⟨rfl,a⟩:=hrel;go_upto_region 6 with fail
     go_cut [27] from 12 to 29 (fun s wx=>s=.bool false/\Below P.heap.size P wx)
     case first =>
      go_wp2_with fail;go_quiet (fail);go_wp2_with fail;go_meet;exact ⟨rfl,qaj a nq⟩
     case rest =>
      clear a;obtain ⟨rfl,a⟩:=hcut;have o:Hid (b < wc.heap.size/\wc.cell? ⟨b,n,none⟩=some (.int .i64 x.1)/\wc.cell? ⟨b,n + 1,none⟩=some (.int .i64 x.2)):=⟨vad B.out.1 a.size,(a.cell (p:=⟨b,n,none⟩) B.out.1).trans B.out.2.1,(a.cell (p:=⟨b,n + 1,none⟩) B.out.1).trans B.out.2.2⟩
      have x0:=o.out.2.1;have x1:=o.out.2.2;have E:Hid (Below w.heap.size w wc):=Q.out.trans (a.mono Q.out.size);have a3:Below wc.heap.size wc wc:=vag _ _;have q:Hid (InsP d (0 + 1) (#[] ++ ((#[]:Array (Int×Int)).toList.take 0).toArray ++ #[x] ++ ((#[]:Array (Int×Int)).toList.drop 0).toArray)):=by
       have:=HI.out.put (k:=0) a1 (vaa _) (fun j U=>absurd U jo) (fun h=>absurd h jo)
       rw [F.out] at this;exact this
      go_wp2_with fail;go_region_held3 (fun O=>Below wc.heap.size wc O/\O.cell? ⟨b,n,none⟩=some (.int .i64 x.1)/\O.cell? ⟨b,n + 1,none⟩=some (.int .i64 x.2)) (first | assumption | exact qbc o.out jN | exact qbc o.out (And.left jN) | exact qbc o.out (vaq jN) | exact qbc o.out (vaq (And.left jN)) | exact qbc o.out (qab jN _) | exact qbc o.out (qab (And.left jN) _) | exact qbc o.out (qab jN _).drew | exact qbc o.out (qab (And.left jN) _).drew | exact qbc o.out (qab (vaq jN) _) | exact qbc o.out (qab (vaq (And.left jN)) _))
       (first
         | (refine qai qbd qar jd jr _ _ _ jr wc 29 X _ 16 underlying23 G H I J rfl _ #[] jr (by first | exact em2A _ _ | exact em2B _ _ _ | exact em2C _ _ _ js) _ _ _ (wc.heap.size + 9) ((#[]:Array (Int×Int)).toList.take 0).toArray jr (jf f.out) (fun h=>absurd h js) (fun _=>rfl) (jf f.out) jd jn ?_;intro v1 w1 r l Z)
         | (refine qai qbd qar jd jr _ _ _ jr wc 29 X _ 16 underlying23 G H I J rfl v1 (#[] ++ ((#[]:Array (Int×Int)).toList.take 0).toArray) jr (by first | exact r | exact (r.alloc _).drew) _ _ _ _ #[x] jr jr (by first | exact qkw _ _ _ | exact qsw l | exact qsx l) (fun h=>by cases h) (jf f.out) jd jn ?_;intro v2 P u M a0)
         | (refine qai qbd qar jd jr _ _ _ jr wc 29 X _ 16 underlying23 G H I J rfl v2 (#[] ++ ((#[]:Array (Int×Int)).toList.take 0).toArray ++ #[x]) jr (by first | exact u | exact u.drew) _ _ _ (wc.heap.size + 9) ((#[]:Array (Int×Int)).toList.drop 0).toArray jr (jf f.out) (fun h=>absurd h js) (fun _=>rfl) (jf f.out) jd jn ?_;intro v3 w3 z N K))
      all_goals
       go_wp2;exact ⟨⟨0 + 1,_,by go_num,by omega,qbq (by rw [q.out.size jo] at z;exact z) (E.out.size),by first | exact q.out | (rw [F.out];exact q.out),E.out.trans (K.mono E.out.size)⟩,by simp [intOf];omega⟩
   obtain ⟨g,C,o0,rfl,b0,hg,hH⟩:=qsy L f.out hn;have Y:Hid (HoldsK qae 2 P g o0 D):=by rw [T.out];exact hH
   have R:Hid (g < P.heap.size):=by rw [T.out];exact hg
   clear hH hg L hn;go_wp2_with fail
   go_loopw [5] (fun kk wr=>∃ k:Nat,kk=.int .i64 k/\k<=m/\(∀ j,j < k->qaf x D[j]! = false)/\Below P.heap.size P wr) (fun kk _=>m - (intOf kk).toNat)
   case atStart=>exact ⟨0,rfl,vaj _,(fun j U=>absurd U jo),by rw [T.out];exact vag _ _⟩
   case round =>
    obtain ⟨k,rfl,hk,U,a⟩:=hrel;have HJ:=hI U;clear U;go_upto_region 6 with fail
    go_cut [27] from 12 to 29 (fun s wx=>s=.bool (decide (k < m) && !qaf x D[k]!)/\Below P.heap.size P wx)
    case first =>
     by_cases V:k < m
     .have a9:(k:Int) < (m:Int):=by omega
      have p0:=fun p=>(cellsE Y.out R.out a (k:=k) (by rw [f.out];exact V) p).1
      have p1:=fun p=>(cellsE Y.out R.out a (k:=k) (by rw [f.out];exact V) p).2
      have q0:∀ p:ExtW wr,p.to.cell? ⟨b,n + m * 2,none⟩=some (.int .i64 x.1):=fun p=>(qbc B.out (a.trans (p.h.mono a.size))).2.1
      have q1:∀ p:ExtW wr,p.to.cell? ⟨b,n + m * 2 + 1,none⟩=some (.int .i64 x.2):=fun p=>(qbc B.out (a.trans (p.h.mono a.size))).2.2
      have hc:=fun W=>rLess_any x D[k]! W
      obtain ⟨y,hy⟩:∃ y,D[k]! = y:=⟨_,rfl⟩
      simp only [hy] at p0 p1 hc;have HT:Hid ((decide (k < m) && !qaf x D[k]!) = !qaf x y):=by show _=_;rw [hy];simp [V]
      clear hy;generalize qaf x y=t at hc HT;have HC:=hI hc;clear hc;cases t
      all_goals
       go_wp2_with fail;refine wprX ?_
       repeat (go_big_quiet_step ((go_at_call 185;exact Calls.ext_of (HC.out _))))
       refine wpQn fun O a6=>?_
       have a5:=a.trans (a6.mono a.size);clear a6 p0 p1 q0 q1;go_wp2_with fail;go_meet;exact ⟨congrArg Value.bool HT.out.symm,a5⟩
     have b3:decide (k < m)=false:=by simp;omega
     have a9:¬ (k:Int) < (m:Int):=by omega
     have HT:Hid ((decide (k < m) && !qaf x D[k]!)=false):=by show _=_;simp [V]
     go_wp2_with fail;go_quiet (fail);go_wp2_with fail;go_meet;exact ⟨congrArg Value.bool HT.out.symm,qaj a nq⟩
    case rest =>
     clear a;obtain ⟨rfl,a⟩:=hcut;cases hT:(decide (k < m) && !qaf x D[k]!)
     .have HT:Hid (k < m->qaf x D[k]! = true):=fun h=>by simpa [h] using hT
      clear hT;have k0:(0:Int)<=(k:Int):=by omega
      have kc:(k:Int)<=(C:Int):=by omega
      have kd:(k:Int)<=(m:Int):=by omega
      by_cases V:k < m
      .have a7:¬ C=k:=by omega
       have o:Hid (b < wc.heap.size/\wc.cell? ⟨b,n + m * 2,none⟩=some (.int .i64 x.1)/\wc.cell? ⟨b,n + m * 2 + 1,none⟩=some (.int .i64 x.2)):=⟨vad B.out.1 a.size,(a.cell (p:=⟨b,n + m * 2,none⟩) B.out.1).trans B.out.2.1,(a.cell (p:=⟨b,n + m * 2 + 1,none⟩) B.out.1).trans B.out.2.2⟩
       have x0:=o.out.2.1;have x1:=o.out.2.2;have E:Hid (Below w.heap.size w wc):=Q.out.trans (a.mono Q.out.size);have a3:Below wc.heap.size wc wc:=vag _ _;have HH:Hid (HoldsK qae 2 wc g o0 D):=qis Y.out R.out a;have S:Hid (g < wc.heap.size):=vad R.out a.size;have q:Hid (InsP d (m + 1) (#[] ++ (D.toList.take k).toArray ++ #[x] ++ (D.toList.drop k).toArray)):=by
        have:=HI.out.put (k:=k) a1 jo (fun j U=>by rw [F.out];exact HJ.out j U) (fun h=>by rw [F.out];exact HT.out h)
        rw [F.out] at this;exact this
       clear a;go_wp2_with fail;go_region_held3 (fun O=>Below wc.heap.size wc O/\O.cell? ⟨b,n + m * 2,none⟩=some (.int .i64 x.1)/\O.cell? ⟨b,n + m * 2 + 1,none⟩=some (.int .i64 x.2)) (first | assumption | exact qbc o.out jN | exact qbc o.out (And.left jN) | exact qbc o.out (vaq jN) | exact qbc o.out (vaq (And.left jN)) | exact qbc o.out (qab jN _) | exact qbc o.out (qab (And.left jN) _) | exact qbc o.out (qab jN _).drew | exact qbc o.out (qab (And.left jN) _).drew | exact qbc o.out (qab (vaq jN) _) | exact qbc o.out (qab (vaq (And.left jN)) _))
        (first
          | (refine qai qbd qar jd jr _ _ _ jr wc 29 X _ 16 underlying23 G H I J rfl _ #[] jr (by first | exact em2A _ _ | exact em2B _ _ _ | exact em2C _ _ _ js) _ _ _ (wc.heap.size + 9) (D.toList.take k).toArray jr (jf f.out) (qkx HH.out S.out jn f.out jo (jg S.out)) (fun h=>by cases h) (jf f.out) jd jn ?_;intro v1 w1 r l Z)
          | (refine qai qbd qar jd jr _ _ _ jr wc 29 X _ 16 underlying23 G H I J rfl v1 (#[] ++ (D.toList.take k).toArray) jr (by first | exact r | exact (r.alloc _).drew) _ _ _ _ #[x] jr jr (by first | exact qkw _ _ _ | exact qsw l | exact qsx l) (fun h=>by cases h) (jf f.out) jd jn ?_;intro v2 P u M a0)
          | (refine qai qbd qar jd jr _ _ _ jr wc 29 X _ 16 underlying23 G H I J rfl v2 (#[] ++ (D.toList.take k).toArray ++ #[x]) jr (by first | exact u | exact u.drew) _ _ _ (wc.heap.size + 9) (D.toList.drop k).toArray jr (jf f.out) (qky HH.out S.out jn f.out jo (jg S.out) jo) (fun h=>by cases h) (jf f.out) jd jn ?_;intro v3 w3 z N K))
       all_goals
        go_wp2;exact ⟨⟨m + 1,_,by go_num,by omega,qbq (by rw [q.out.size jo] at z;exact z) (E.out.size),by first | exact q.out | (rw [F.out];exact q.out),E.out.trans (K.mono E.out.size)⟩,by simp [intOf];omega⟩
      obtain rfl:k=m:=by omega
      by_cases a7:C=k
      .obtain rfl:C=k:=a7
       have o:Hid (b < wc.heap.size/\wc.cell? ⟨b,n + C * 2,none⟩=some (.int .i64 x.1)/\wc.cell? ⟨b,n + C * 2 + 1,none⟩=some (.int .i64 x.2)):=⟨vad B.out.1 a.size,(a.cell (p:=⟨b,n + C * 2,none⟩) B.out.1).trans B.out.2.1,(a.cell (p:=⟨b,n + C * 2 + 1,none⟩) B.out.1).trans B.out.2.2⟩
       have x0:=o.out.2.1;have x1:=o.out.2.2;have E:Hid (Below w.heap.size w wc):=Q.out.trans (a.mono Q.out.size);have a3:Below wc.heap.size wc wc:=vag _ _;have HH:Hid (HoldsK qae 2 wc g o0 D):=qis Y.out R.out a;have S:Hid (g < wc.heap.size):=vad R.out a.size;have q:Hid (InsP d (C + 1) (#[] ++ (D.toList.take C).toArray ++ #[x] ++ (D.toList.drop C).toArray)):=by
        have:=HI.out.put (k:=C) a1 jo (fun j U=>by rw [F.out];exact HJ.out j U) (fun h=>by rw [F.out];exact HT.out h)
        rw [F.out] at this;exact this
       clear a;go_wp2_with fail;go_region_held3 (fun O=>Below wc.heap.size wc O/\O.cell? ⟨b,n + C * 2,none⟩=some (.int .i64 x.1)/\O.cell? ⟨b,n + C * 2 + 1,none⟩=some (.int .i64 x.2)) (first | assumption | exact qbc o.out jN | exact qbc o.out (And.left jN) | exact qbc o.out (vaq jN) | exact qbc o.out (vaq (And.left jN)) | exact qbc o.out (qab jN _) | exact qbc o.out (qab (And.left jN) _) | exact qbc o.out (qab jN _).drew | exact qbc o.out (qab (And.left jN) _).drew | exact qbc o.out (qab (vaq jN) _) | exact qbc o.out (qab (vaq (And.left jN)) _))
        (first
          | (refine qai qbd qar jd jr _ _ _ jr wc 29 X _ 16 underlying23 G H I J rfl _ #[] jr (by first | exact em2A _ _ | exact em2B _ _ _ | exact em2C _ _ _ js) _ _ _ (wc.heap.size + 9) (D.toList.take C).toArray jr (jf f.out) (qkx HH.out S.out jn f.out jo (jg S.out)) (fun h=>by cases h) (jf f.out) jd jn ?_;intro v1 w1 r l Z)
          | (refine qai qbd qar jd jr _ _ _ jr wc 29 X _ 16 underlying23 G H I J rfl v1 (#[] ++ (D.toList.take C).toArray) jr (by first | exact r | exact (r.alloc _).drew) _ _ _ _ #[x] jr jr (by first | exact qkw _ _ _ | exact qsw l | exact qsx l) (fun h=>by cases h) (jf f.out) jd jn ?_;intro v2 P u M a0)
          | (refine qai qbd qar jd jr _ _ _ jr wc 29 X _ 16 underlying23 G H I J rfl v2 (#[] ++ (D.toList.take C).toArray ++ #[x]) jr (by first | exact u | exact u.drew) _ _ _ (wc.heap.size + 9) (D.toList.drop C).toArray jr (jf f.out) (qky HH.out S.out jn f.out jo (jg S.out) jo) (fun h=>by cases h) (jf f.out) jd jn ?_;intro v3 w3 z N K))
       all_goals
        go_wp2;exact ⟨⟨C + 1,_,by go_num,by omega,qbq (by rw [q.out.size jo] at z;exact z) (E.out.size),by first | exact q.out | (rw [F.out];exact q.out),E.out.trans (K.mono E.out.size)⟩,by simp [intOf];omega⟩
      skip
      have o:Hid (b < wc.heap.size/\wc.cell? ⟨b,n + k * 2,none⟩=some (.int .i64 x.1)/\wc.cell? ⟨b,n + k * 2 + 1,none⟩=some (.int .i64 x.2)):=⟨vad B.out.1 a.size,(a.cell (p:=⟨b,n + k * 2,none⟩) B.out.1).trans B.out.2.1,(a.cell (p:=⟨b,n + k * 2 + 1,none⟩) B.out.1).trans B.out.2.2⟩
      have x0:=o.out.2.1;have x1:=o.out.2.2;have E:Hid (Below w.heap.size w wc):=Q.out.trans (a.mono Q.out.size);have a3:Below wc.heap.size wc wc:=vag _ _;have HH:Hid (HoldsK qae 2 wc g o0 D):=qis Y.out R.out a;have S:Hid (g < wc.heap.size):=vad R.out a.size;have q:Hid (InsP d (k + 1) (#[] ++ (D.toList.take k).toArray ++ #[x] ++ (D.toList.drop k).toArray)):=by
       have:=HI.out.put (k:=k) a1 jo (fun j U=>by rw [F.out];exact HJ.out j U) (fun h=>by rw [F.out];exact HT.out h)
       rw [F.out] at this;exact this
      clear a;go_wp2_with fail;go_region_held3 (fun O=>Below wc.heap.size wc O/\O.cell? ⟨b,n + k * 2,none⟩=some (.int .i64 x.1)/\O.cell? ⟨b,n + k * 2 + 1,none⟩=some (.int .i64 x.2)) (first | assumption | exact qbc o.out jN | exact qbc o.out (And.left jN) | exact qbc o.out (vaq jN) | exact qbc o.out (vaq (And.left jN)) | exact qbc o.out (qab jN _) | exact qbc o.out (qab (And.left jN) _) | exact qbc o.out (qab jN _).drew | exact qbc o.out (qab (And.left jN) _).drew | exact qbc o.out (qab (vaq jN) _) | exact qbc o.out (qab (vaq (And.left jN)) _))
       (first
         | (refine qai qbd qar jd jr _ _ _ jr wc 29 X _ 16 underlying23 G H I J rfl _ #[] jr (by first | exact em2A _ _ | exact em2B _ _ _ | exact em2C _ _ _ js) _ _ _ (wc.heap.size + 9) (D.toList.take k).toArray jr (jf f.out) (qkx HH.out S.out jn f.out jo (jg S.out)) (fun h=>by cases h) (jf f.out) jd jn ?_;intro v1 w1 r l Z)
         | (refine qai qbd qar jd jr _ _ _ jr wc 29 X _ 16 underlying23 G H I J rfl v1 (#[] ++ (D.toList.take k).toArray) jr (by first | exact r | exact (r.alloc _).drew) _ _ _ _ #[x] jr jr (by first | exact qkw _ _ _ | exact qsw l | exact qsx l) (fun h=>by cases h) (jf f.out) jd jn ?_;intro v2 P u M a0)
         | (refine qai qbd qar jd jr _ _ _ jr wc 29 X _ 16 underlying23 G H I J rfl v2 (#[] ++ (D.toList.take k).toArray ++ #[x]) jr (by first | exact u | exact u.drew) _ _ _ (wc.heap.size + 9) (D.toList.drop k).toArray jr (jf f.out) (qky HH.out S.out jn f.out jo (jg S.out) jo) (fun h=>by cases h) (jf f.out) jd jn ?_;intro v3 w3 z N K))
      all_goals
       go_wp2;exact ⟨⟨k + 1,_,by go_num,by omega,qbq (by rw [q.out.size jo] at z;exact z) (E.out.size),by first | exact q.out | (rw [F.out];exact q.out),E.out.trans (K.mono E.out.size)⟩,by simp [intOf];omega⟩
     have V:k < m:=by simp at hT;exact hT.1
     have HT:Hid (qaf x D[k]! = false):=by show _=_;simp at hT;exact hT.2
     clear hT;go_wp2
     exact ⟨⟨k + 1,by go_num,by omega,(fun j U=>by
      rcases val j k with h | h
      .exact HJ.out j h
      obtain rfl:j=k:=by omega
      exact HT.out),a⟩,by simp [intOf];omega⟩
  obtain rfl:m=d.size:=by omega
  obtain rfl:=HI.out.fin;have HO:=hI L;clear L;have b1:¬ (d.size:Int) < (d.size:Int):=by omega
  go_wp2;go_ret;exact ⟨_,rfl,HO.out,hB⟩
