/- Texts that the law leans on. -/
import Derived.Test.YtdcfffhoajmafaaGreatQOpenK
import Derived.Test.YtdcfffhoajmafaaGreatQSortL
set_option maxRecDepth 100000
set_option maxHeartbeats 16000000
namespace Go.Proofs.YtdcfffhoajmafaaGreat
open Go.RowKit Go.Sort Go.Lib Go.Proofs.Tryz
section
theorem qzi (d:Array (Int×Int)) (k:Nat):d.set! k d[k]! = d:=by
 refine Array.ext js fun i b a=>?_
 by_cases e:k=i
 .subst e
  simp [a]
 have:=qjd d k i d[k]! (Ne.symm e)
 rw [vae _ i b,vae d i a] at this;exact this
theorem addF_join {out:Array (Int×Int)} {x:Int×Int} (a:0 < out.size) (b:x.1<=out[out.size - 1]!.2 + 1) (c:out[out.size - 1]!.2 < x.2):addF out x=out.set! (out.size - 1) (out[out.size - 1]!.1,x.2):=by
 unfold addF;rw [vam ⟨a,b⟩,show max out[out.size - 1]!.2 x.2=x.2 by omega]
theorem addF_in {out:Array (Int×Int)} {x:Int×Int} (a:0 < out.size) (b:x.1<=out[out.size - 1]!.2 + 1) (c:¬ out[out.size - 1]!.2 < x.2):addF out x=out:=by
 unfold addF;rw [vam ⟨a,b⟩,show max out[out.size - 1]!.2 x.2=out[out.size - 1]!.2 by omega];exact qzi out _
theorem qrs {out:Array (Int×Int)} {x:Int×Int} (h:¬ (0 < out.size/\x.1<=out[out.size - 1]!.2 + 1)):addF out x=out.push x:=by
 unfold addF;rw [vao h]
theorem foldU {d o:Array (Int×Int)} (h:InsU d d.size o) (b:∀ x ∈ d.toList,x.1<=x.2->1<=x.1/\x.2<=1000000) (j:Nat):NL ((o.toList.take j).foldl addF #[]).toList:=by
 refine (qlr (o.toList.take j) #[] ⟨by simp,by simp⟩ (fun x c=>?_) (h.up.sublist (List.take_sublist _ _)) js).1;have a:=(h.mem x).1 (List.mem_of_mem_take c);rw [vaz js] at a
 have:=b x a.1 a.2
 omega
theorem qzj {o:Array (Int×Int)} {j:Nat} (a:j < o.size):(o.toList.take (j + 1)).foldl addF #[]=addF ((o.toList.take j).foldl addF #[]) o[j]!:=by
 rw [qcv a,List.foldl_append];rfl
attribute [local go_sem ↓] Go.wp_at_zero Go.wp_at_succ
theorem uni_any (A1:Option Addr) (c1:Nat) (d1:Array (Int×Int)) (A2:Option Addr) (c2:Nat) (d2:Array (Int×Int)) (w:World) (h1:RdK encR 2 w.heap.size w A1 d1) (h2:RdK encR 2 w.heap.size w A2 d2) (n1:A1=none->c1=0) (n2:A2=none->c2=0) (hd:d1.size + d2.size<=100000)
 (hv:∀ x ∈ (d1 ++ d2).toList,x.1<=x.2->1<=x.1/\x.2<=1000000) :
 Calls prog 97 #[.slice A1 d1.size c1,.slice A2 d2.size c2] w fun e S=>∃ v a,e=.returned v/\IsN (inR (d1 ++ d2)) a/\a.size<=d1.size + d2.size/\S.ownsRow w.heap.size 124 2 v a.size (flatK encR 2 a).toList/\Below w.heap.size w S:=by
 obtain ⟨X,G,H,I,J⟩:=vbo qda;have c5:=hI (qba w 124 encR 2);have d7:=hI n1;have d8:=hI n2;have HV:=hI hv;clear n1 n2 hv;go_in
 go_wp2_with (first
  | (at_builtin;refine qcq qik qbj jd rfl _ _ 64 rfl w.heap.size 124 X (.agg #[.int .i64 0,.int .i64 0]) 16 underlying64 G H I J rfl _ #[] rfl c5.out w.heap.size A1 c1 d1 rfl (h1.alloc (vaa _) _) d7.out jso jd js ?_;intro v1 w1 o e7 _;have a6:Below w.heap.size w w1:=(bel1 w _).grown e7 js (fun k hk=>(c5.out.lt k hk).1))
  | (at_builtin;refine qcq qik qbj jd rfl _ _ 64 rfl w.heap.size 124 X (.agg #[.int .i64 0,.int .i64 0]) 16 underlying64 G H I J rfl v1 (#[] ++ d1) rfl o w.heap.size A2 c2 d2 rfl (h2.below a6) d8.out jso jd a6.size ?_;intro v2 w0 t e8 _;have e3:Below w.heap.size w w0:=a6.grown e8 a6.size (fun k hk=>(o.lt k hk).1);obtain ⟨A3,c3,rfl,b5,_⟩:=qaq t))
 have e12:#[] ++ d1 ++ d2=d1 ++ d2:=by simp
 rw [e12] at b5;have b6:d1.size + d2.size=(d1 ++ d2).size:=by simp
 obtain ⟨d,d0⟩:∃ d,d1 ++ d2=d:=⟨_,rfl⟩
 rw [d0] at b5 b6 HV;rw [b6] at hd |-
 have f5:=hI d0;have f6:=hI b6;clear d0;have HR:=hI b5;have d4:=hI e3;clear b5 e3 e12 b6 o t e7 e8 a6 c5 d7 d8 h1 h2
 go_loopw [5,7] (fun v i wr=>∃ (m:Nat) (u:Array (Int×Int)),i=.int .i64 m/\m<=d.size/\wr.ownsRow w0.heap.size 124 2 v u.size (flatK qae 2 u).toList/\InsU d m u/\Below w0.heap.size w0 wr) (fun _ i _=>d.size - (intOf i).toNat)
 case atStart=>exact ⟨0,#[],rfl,vaj _,qbk _ _ _ _ _,InsU.nil d,vag _ _⟩
 case round =>
  obtain ⟨m,u,rfl,hm,z,c7,hB⟩:=hrel;have f4:=c7.sz;have HI:=hI c7;clear c7;by_cases R:m < d.size
  .obtain ⟨b,q,rfl,e4,c9⟩:=(HR.out.below hB).at_ R
   have x0:=c9 0 jd;have x1:=c9 1 jd;clear c9;obtain ⟨x,hx⟩:∃ x,d[m]! = x:=⟨_,rfl⟩
   rw [hx] at x0 x1;simp only [vak,encR,vac,vaf] at x0 x1;have L:=hI hx;clear hx;have kz:(m:Int) < (d.size:Int):=by omega
   by_cases a5:x.2 < x.1
   .have b9:decide (x.2 < x.1)=true:=vah a5
    have f9:Hid (InsU d (m + 1) u):=HI.out.skip R (by rw [L.out];exact a5);clear a5;go_wp2_with fail;go_quiet (fail);go_wp2_with fail;exact ⟨⟨m + 1,u,by go_num,by omega,z,f9.out,qaj hB nq⟩,by simp [intOf];omega⟩
   have b9:decide (x.2 < x.1)=false:=vab a5;have b3:=hI (Int.not_lt.1 a5);clear a5;go_wp2_with fail;go_quiet (fail);obtain ⟨s,hs⟩:∃ s,u.size=s:=⟨_,rfl⟩
   rw [hs] at z f4;have n:=hI hs;clear hs;have i2:s<=100000:=by omega
   have E:(wr.drewN nq).ownsRow w0.heap.size 124 2 u5 s (flatK qae 2 u).toList:=z;obtain ⟨V,a2⟩:∃ W,Hid (W=wr.drewN nq):=⟨_,rfl⟩
   have D:Hid (b < V.heap.size/\V.cell? ⟨b,q + m * 2,none⟩=some (.int .i64 x.1)/\V.cell? ⟨b,q + m * 2 + 1,none⟩=some (.int .i64 x.2)):=by
    rw [a2.out];exact ⟨vad e4 hB.size,x0,x1⟩
   have T:Hid (Below w0.heap.size w0 V):=by rw [a2.out];exact qaj hB nq
   clear hB x0 x1 z b9;by_cases hn:u5=.slice none 0 0
   .subst hn
    have h0:s=0:=by
     obtain ⟨_,⟨_,h0⟩ | ⟨g,F,h5,hv,_⟩⟩:=E
     .exact h0
     cases hv
    subst h0;clear E;obtain rfl:u=#[]:=var n.out;go_wp2_with fail
    go_loopw [8] (fun kk wr=>kk=.int .i64 0/\Below V.heap.size V wr) (fun _ _=>0)
    case atStart=>exact ⟨rfl,by rw [a2.out];exact vag _ _⟩
    case round =>
     obtain ⟨rfl,l⟩:=hrel;go_wp2_with fail;go_quiet (fail);have C:=qaj l nq;clear l;generalize wr.drewN nq=wc at C |-
     have l:=C;clear C;have B:Hid (b < wc.heap.size/\wc.cell? ⟨b,q + m * 2,none⟩=some (.int .i64 x.1)/\wc.cell? ⟨b,q + m * 2 + 1,none⟩=some (.int .i64 x.2)):=⟨vad D.out.1 l.size,(l.cell (p:=⟨b,q + m * 2,none⟩) D.out.1).trans D.out.2.1,(l.cell (p:=⟨b,q + m * 2 + 1,none⟩) D.out.1).trans D.out.2.2⟩
     have x0:=B.out.2.1;have x1:=B.out.2.2;have K:Hid (Below w0.heap.size w0 wc):=T.out.trans (l.mono T.out.size);have c8:Below wc.heap.size wc wc:=vag _ _;have N:Hid (InsU d (m + 1) (#[] ++ ((#[]:Array (Int×Int)).toList.take 0).toArray ++ #[x] ++ ((#[]:Array (Int×Int)).toList.drop 0).toArray)):=by
      have:=HI.out.put (k:=0) R (by rw [L.out];exact b3.out) (vaj _) (fun j hj=>absurd hj jo) (fun h=>absurd h js)
      rw [L.out] at this;exact this
     clear l;go_wp2_with fail;go_region_held3 (fun S=>Below wc.heap.size wc S/\S.cell? ⟨b,q + m * 2,none⟩=some (.int .i64 x.1)/\S.cell? ⟨b,q + m * 2 + 1,none⟩=some (.int .i64 x.2)) (first | assumption | exact qbc B.out jN | exact qbc B.out (And.left jN) | exact qbc B.out (vaq jN) | exact qbc B.out (vaq (And.left jN)) | exact qbc B.out (qab jN _) | exact qbc B.out (qab (And.left jN) _) | exact qbc B.out (qab jN _).drew | exact qbc B.out (qab (And.left jN) _).drew | exact qbc B.out (qab (vaq jN) _) | exact qbc B.out (qab (vaq (And.left jN)) _))
      (first
        | (refine qai qbd qar jd jr _ _ _ jr wc 124 X _ 16 underlying64 G H I J rfl _ #[] jr (by first | exact em2A _ _ | exact em2B _ _ _ | exact em2C _ _ _ js) _ _ _ (wc.heap.size + 9) ((#[]:Array (Int×Int)).toList.take 0).toArray jr (jf n.out) (fun h=>absurd h js) (fun _=>rfl) (jf n.out) jd jn ?_;intro v1 w1 o r a7)
        | (refine qai qbd qar jd jr _ _ _ jr wc 124 X _ 16 underlying64 G H I J rfl v1 (#[] ++ ((#[]:Array (Int×Int)).toList.take 0).toArray) jr (by first | exact o | exact (o.alloc _).drew) _ _ _ _ #[x] jr jr (by first | exact qkw _ _ _ | exact qsw r | exact qsx r) (fun h=>by cases h) (jf n.out) jd jn ?_;intro v2 V t P a8)
        | (refine qai qbd qar jd jr _ _ _ jr wc 124 X _ 16 underlying64 G H I J rfl v2 (#[] ++ ((#[]:Array (Int×Int)).toList.take 0).toArray ++ #[x]) jr (by first | exact t | exact t.drew) _ _ _ (wc.heap.size + 9) ((#[]:Array (Int×Int)).toList.drop 0).toArray jr (jf n.out) (fun h=>absurd h js) (fun _=>rfl) (jf n.out) jd jn ?_;intro v3 w3 M Q O))
     all_goals
      go_wp2;exact ⟨⟨m + 1,_,by go_num,by omega,qbq M K.out.size,N.out,K.out.trans (O.mono K.out.size)⟩,by simp [intOf];omega⟩
   obtain ⟨g,F,o0,rfl,g8,hg,hH⟩:=qsy E n.out hn;have b2:Hid (HoldsK qae 2 V g o0 u):=by rw [a2.out];exact hH
   have Y:Hid (g < V.heap.size):=by rw [a2.out];exact hg
   clear hH hg E hn;go_wp2_with fail
   go_loopw [8] (fun kk wr=>∃ k:Nat,kk=.int .i64 k/\k<=s/\(∀ j,j < k->u[j]!.1<=x.1)/\Below V.heap.size V wr) (fun kk _=>s - (intOf kk).toNat)
   case atStart=>exact ⟨0,rfl,vaj _,(fun j hj=>absurd hj jo),by rw [a2.out];exact vag _ _⟩
   case round =>
    obtain ⟨k,rfl,hk,hj,l⟩:=hrel;have HJ:=hI hj;clear hj;have k0:(0:Int)<=(k:Int):=by omega
    have kc:(k:Int)<=(F:Int):=by omega
    have kd:(k:Int)<=(s:Int):=by omega
    have q0:=(l.cell (p:=⟨b,q + m * 2,none⟩) D.out.1).trans D.out.2.1;by_cases g3:k < s
    .have h8:(k:Int) < (s:Int):=by omega
     have p0:wr.cell? ⟨g,o0 + k * 2,none⟩=some (.int .i64 u[k]!.1):=(cellsE b2.out Y.out l (k:=k) (by rw [n.out];exact g3) ⟨wr,vag _ _⟩).1;obtain ⟨y,hy⟩:∃ y,u[k]!.1=y:=⟨_,rfl⟩
     rw [hy] at p0;have HY:=hI hy;clear hy;by_cases b1:y<=x.1
     .have c0:decide (y<=x.1)=true:=vah b1
      have g1:=hI b1;clear b1;go_wp2_with fail;go_quiet (fail);go_wp2
      exact ⟨⟨k + 1,by go_num,by omega,(fun j hj=>by
       rcases val j k with h | h
       .exact HJ.out j h
       obtain rfl:j=k:=by omega
       rw [HY.out];exact g1.out),qaj l nq⟩,by simp [intOf];omega⟩
     have c0:decide (y<=x.1)=false:=vab b1;have HT:Hid (k < s->x.1 < u[k]!.1):=fun _=>by rw [HY.out];omega
     have e5:¬ F=k:=by omega
     clear b1;go_wp2_with fail;go_quiet (fail);have C:=qaj l nq;clear l p0 q0 c0;generalize wr.drewN nq=wc at C |-
     have l:=C;clear C;have B:Hid (b < wc.heap.size/\wc.cell? ⟨b,q + m * 2,none⟩=some (.int .i64 x.1)/\wc.cell? ⟨b,q + m * 2 + 1,none⟩=some (.int .i64 x.2)):=⟨vad D.out.1 l.size,(l.cell (p:=⟨b,q + m * 2,none⟩) D.out.1).trans D.out.2.1,(l.cell (p:=⟨b,q + m * 2 + 1,none⟩) D.out.1).trans D.out.2.2⟩
     have x0:=B.out.2.1;have x1:=B.out.2.2;have K:Hid (Below w0.heap.size w0 wc):=T.out.trans (l.mono T.out.size);have c8:Below wc.heap.size wc wc:=vag _ _;have HH:Hid (HoldsK qae 2 wc g o0 u):=qis b2.out Y.out l;have HG:Hid (g < wc.heap.size):=vad Y.out l.size;have N:Hid (InsU d (m + 1) (#[] ++ (u.toList.take k).toArray ++ #[x] ++ (u.toList.drop k).toArray)):=by
      have:=HI.out.put (k:=k) R (by rw [L.out];exact b3.out) (jg n.out) (fun j hj=>by rw [L.out];exact HJ.out j hj) (fun h=>by rw [L.out];exact HT.out (jg n.out))
      rw [L.out] at this;exact this
     clear l;go_wp2_with fail;go_region_held3 (fun S=>Below wc.heap.size wc S/\S.cell? ⟨b,q + m * 2,none⟩=some (.int .i64 x.1)/\S.cell? ⟨b,q + m * 2 + 1,none⟩=some (.int .i64 x.2)) (first | assumption | exact qbc B.out jN | exact qbc B.out (And.left jN) | exact qbc B.out (vaq jN) | exact qbc B.out (vaq (And.left jN)) | exact qbc B.out (qab jN _) | exact qbc B.out (qab (And.left jN) _) | exact qbc B.out (qab jN _).drew | exact qbc B.out (qab (And.left jN) _).drew | exact qbc B.out (qab (vaq jN) _) | exact qbc B.out (qab (vaq (And.left jN)) _))
      (first
        | (refine qai qbd qar jd jr _ _ _ jr wc 124 X _ 16 underlying64 G H I J rfl _ #[] jr (by first | exact em2A _ _ | exact em2B _ _ _ | exact em2C _ _ _ js) _ _ _ (wc.heap.size + 9) (u.toList.take k).toArray jr (jf n.out) (qkx HH.out HG.out jn n.out jo (jg HG.out)) (fun h=>by cases h) (jf n.out) jd jn ?_;intro v1 w1 o r a7)
        | (refine qai qbd qar jd jr _ _ _ jr wc 124 X _ 16 underlying64 G H I J rfl v1 (#[] ++ (u.toList.take k).toArray) jr (by first | exact o | exact (o.alloc _).drew) _ _ _ _ #[x] jr jr (by first | exact qkw _ _ _ | exact qsw r | exact qsx r) (fun h=>by cases h) (jf n.out) jd jn ?_;intro v2 V t P a8)
        | (refine qai qbd qar jd jr _ _ _ jr wc 124 X _ 16 underlying64 G H I J rfl v2 (#[] ++ (u.toList.take k).toArray ++ #[x]) jr (by first | exact t | exact t.drew) _ _ _ (wc.heap.size + 9) (u.toList.drop k).toArray jr (jf n.out) (qky HH.out HG.out jn n.out jo (jg HG.out) jo) (fun h=>by cases h) (jf n.out) jd jn ?_;intro v3 w3 M Q O))
     all_goals
      go_wp2;exact ⟨⟨m + 1,_,by go_num,by omega,qbq M K.out.size,N.out,K.out.trans (O.mono K.out.size)⟩,by simp [intOf];omega⟩
    obtain rfl:k=s:=by omega
    have HT:Hid (k < k->x.1 < u[k]!.1):=fun h=>absurd h jo
    have h7:decide ((k:Int) < (k:Int))=false:=vab jo;by_cases e5:F=k
    .obtain rfl:F=k:=e5
     go_wp2_with fail;go_quiet (fail);have C:=qaj l nq;clear l q0;generalize wr.drewN nq=wc at C |-
     have l:=C;clear C;have B:Hid (b < wc.heap.size/\wc.cell? ⟨b,q + m * 2,none⟩=some (.int .i64 x.1)/\wc.cell? ⟨b,q + m * 2 + 1,none⟩=some (.int .i64 x.2)):=⟨vad D.out.1 l.size,(l.cell (p:=⟨b,q + m * 2,none⟩) D.out.1).trans D.out.2.1,(l.cell (p:=⟨b,q + m * 2 + 1,none⟩) D.out.1).trans D.out.2.2⟩
     have x0:=B.out.2.1;have x1:=B.out.2.2;have K:Hid (Below w0.heap.size w0 wc):=T.out.trans (l.mono T.out.size);have c8:Below wc.heap.size wc wc:=vag _ _;have HH:Hid (HoldsK qae 2 wc g o0 u):=qis b2.out Y.out l;have HG:Hid (g < wc.heap.size):=vad Y.out l.size;have N:Hid (InsU d (m + 1) (#[] ++ (u.toList.take F).toArray ++ #[x] ++ (u.toList.drop F).toArray)):=by
      have:=HI.out.put (k:=F) R (by rw [L.out];exact b3.out) (jg n.out) (fun j hj=>by rw [L.out];exact HJ.out j hj) (fun h=>by rw [L.out];exact HT.out (jg n.out))
      rw [L.out] at this;exact this
     clear l;go_wp2_with fail;go_region_held3 (fun S=>Below wc.heap.size wc S/\S.cell? ⟨b,q + m * 2,none⟩=some (.int .i64 x.1)/\S.cell? ⟨b,q + m * 2 + 1,none⟩=some (.int .i64 x.2)) (first | assumption | exact qbc B.out jN | exact qbc B.out (And.left jN) | exact qbc B.out (vaq jN) | exact qbc B.out (vaq (And.left jN)) | exact qbc B.out (qab jN _) | exact qbc B.out (qab (And.left jN) _) | exact qbc B.out (qab jN _).drew | exact qbc B.out (qab (And.left jN) _).drew | exact qbc B.out (qab (vaq jN) _) | exact qbc B.out (qab (vaq (And.left jN)) _))
      (first
        | (refine qai qbd qar jd jr _ _ _ jr wc 124 X _ 16 underlying64 G H I J rfl _ #[] jr (by first | exact em2A _ _ | exact em2B _ _ _ | exact em2C _ _ _ js) _ _ _ (wc.heap.size + 9) (u.toList.take F).toArray jr (jf n.out) (qkx HH.out HG.out jn n.out jo (jg HG.out)) (fun h=>by cases h) (jf n.out) jd jn ?_;intro v1 w1 o r a7)
        | (refine qai qbd qar jd jr _ _ _ jr wc 124 X _ 16 underlying64 G H I J rfl v1 (#[] ++ (u.toList.take F).toArray) jr (by first | exact o | exact (o.alloc _).drew) _ _ _ _ #[x] jr jr (by first | exact qkw _ _ _ | exact qsw r | exact qsx r) (fun h=>by cases h) (jf n.out) jd jn ?_;intro v2 V t P a8)
        | (refine qai qbd qar jd jr _ _ _ jr wc 124 X _ 16 underlying64 G H I J rfl v2 (#[] ++ (u.toList.take F).toArray ++ #[x]) jr (by first | exact t | exact t.drew) _ _ _ (wc.heap.size + 9) (u.toList.drop F).toArray jr (jf n.out) (qky HH.out HG.out jn n.out jo (jg HG.out) jo) (fun h=>by cases h) (jf n.out) jd jn ?_;intro v3 w3 M Q O))
     all_goals
      go_wp2;exact ⟨⟨m + 1,_,by go_num,by omega,qbq M K.out.size,N.out,K.out.trans (O.mono K.out.size)⟩,by simp [intOf];omega⟩
    go_wp2_with fail;go_quiet (fail);have C:=qaj l nq;clear l q0;generalize wr.drewN nq=wc at C |-
    have l:=C;clear C;have B:Hid (b < wc.heap.size/\wc.cell? ⟨b,q + m * 2,none⟩=some (.int .i64 x.1)/\wc.cell? ⟨b,q + m * 2 + 1,none⟩=some (.int .i64 x.2)):=⟨vad D.out.1 l.size,(l.cell (p:=⟨b,q + m * 2,none⟩) D.out.1).trans D.out.2.1,(l.cell (p:=⟨b,q + m * 2 + 1,none⟩) D.out.1).trans D.out.2.2⟩
    have x0:=B.out.2.1;have x1:=B.out.2.2;have K:Hid (Below w0.heap.size w0 wc):=T.out.trans (l.mono T.out.size);have c8:Below wc.heap.size wc wc:=vag _ _;have HH:Hid (HoldsK qae 2 wc g o0 u):=qis b2.out Y.out l;have HG:Hid (g < wc.heap.size):=vad Y.out l.size;have N:Hid (InsU d (m + 1) (#[] ++ (u.toList.take k).toArray ++ #[x] ++ (u.toList.drop k).toArray)):=by
     have:=HI.out.put (k:=k) R (by rw [L.out];exact b3.out) (jg n.out) (fun j hj=>by rw [L.out];exact HJ.out j hj) (fun h=>by rw [L.out];exact HT.out (jg n.out))
     rw [L.out] at this;exact this
    clear l;go_wp2_with fail;go_region_held3 (fun S=>Below wc.heap.size wc S/\S.cell? ⟨b,q + m * 2,none⟩=some (.int .i64 x.1)/\S.cell? ⟨b,q + m * 2 + 1,none⟩=some (.int .i64 x.2)) (first | assumption | exact qbc B.out jN | exact qbc B.out (And.left jN) | exact qbc B.out (vaq jN) | exact qbc B.out (vaq (And.left jN)) | exact qbc B.out (qab jN _) | exact qbc B.out (qab (And.left jN) _) | exact qbc B.out (qab jN _).drew | exact qbc B.out (qab (And.left jN) _).drew | exact qbc B.out (qab (vaq jN) _) | exact qbc B.out (qab (vaq (And.left jN)) _))
     (first
       | (refine qai qbd qar jd jr _ _ _ jr wc 124 X _ 16 underlying64 G H I J rfl _ #[] jr (by first | exact em2A _ _ | exact em2B _ _ _ | exact em2C _ _ _ js) _ _ _ (wc.heap.size + 9) (u.toList.take k).toArray jr (jf n.out) (qkx HH.out HG.out jn n.out jo (jg HG.out)) (fun h=>by cases h) (jf n.out) jd jn ?_;intro v1 w1 o r a7)
       | (refine qai qbd qar jd jr _ _ _ jr wc 124 X _ 16 underlying64 G H I J rfl v1 (#[] ++ (u.toList.take k).toArray) jr (by first | exact o | exact (o.alloc _).drew) _ _ _ _ #[x] jr jr (by first | exact qkw _ _ _ | exact qsw r | exact qsx r) (fun h=>by cases h) (jf n.out) jd jn ?_;intro v2 V t P a8)
       | (refine qai qbd qar jd jr _ _ _ jr wc 124 X _ 16 underlying64 G H I J rfl v2 (#[] ++ (u.toList.take k).toArray ++ #[x]) jr (by first | exact t | exact t.drew) _ _ _ (wc.heap.size + 9) (u.toList.drop k).toArray jr (jf n.out) (qky HH.out HG.out jn n.out jo (jg HG.out) jo) (fun h=>by cases h) (jf n.out) jd jn ?_;intro v3 w3 M Q O))
    all_goals
     go_wp2;exact ⟨⟨m + 1,_,by go_num,by omega,qbq M K.out.size,N.out,K.out.trans (O.mono K.out.size)⟩,by simp [intOf];omega⟩
  obtain rfl:m=d.size:=by omega
  obtain ⟨N1,N2⟩:=HI.out.fin HV.out;have f7:Hid (IsN (inR d) (qhc u.toList)/\(qhc u.toList).size<=d.size):=⟨N1,N2⟩
  have HF:=hI (foldU HI.out HV.out);have f3:RdV wr u5 u:=RdV.own z;obtain ⟨Ao,co,rfl,f2,_⟩:=f3;have d9:=hI f2;have c4:=hI hB;have g9:¬ (d.size:Int) < (d.size:Int):=by omega
  have h9:u.size<=100000:=by omega
  clear z hB f2 N1 N2 HI HV f4;obtain ⟨wl,e2⟩:∃ W,Hid (W=wr):=⟨_,rfl⟩
  rw [<-e2.out] at d9 c4;go_wp2
  go_loopw [9,10] (fun v i wr=>∃ (j:Nat) (a:Array (Int×Int)),i=.int .i64 j/\j<=u.size/\a=(u.toList.take j).foldl addF #[]/\wr.ownsRow wl.heap.size 124 2 v a.size (flatK encR 2 a).toList/\Below wl.heap.size wl wr) (fun _ i _=>u.size - (intOf i).toNat)
  case atStart=>exact ⟨0,#[],rfl,vaj _,rfl,qbk _ _ _ _ _,by rw [e2.out];exact vag _ _⟩
  case round =>
   obtain ⟨j,a,rfl,hj,ho,z,hb⟩:=hrel;have b7:=hb.size;by_cases R:j < u.size
   .have jz:(j:Int) < (u.size:Int):=by omega
    obtain ⟨b,q,rfl,e4,f⟩:=(d9.out.below hb).at_ R;have e0:=f 0 jo;have e1:=f 1 jo;have f8:Hid (NL a.toList):=by rw [ho];exact HF.out j
    have HS:Hid ((u.toList.take (j + 1)).foldl addF #[]=addF a u[j]!):=by show _=_;rw [ho];exact qzj R
    have h4:a.size<=j:=by
     have:=qgr (u.toList.take j) #[]
     rw [<-ho] at this;simp at this;omega
    obtain ⟨x,hx⟩:∃ x,u[j]! = x:=⟨_,rfl⟩
    rw [hx] at e0 e1 HS;simp only [vak,encR,vac,vaf] at e0 e1;clear f hx ho;rcases vba a.size with h0 | h0
    .obtain rfl:a=#[]:=var h0
     have HE:Hid ((u.toList.take (j + 1)).foldl addF #[]=#[x]):=HS.out.trans (qrs js);obtain ⟨A,c,rfl,_,_⟩:=qaq z;clear HS h0;go_wp2;go_quiet (fail);have U:(wr.drewN nq).ownsRow wl.heap.size 124 2 (.slice A 0 c) 0 []:=by have:=z;rw [qdl] at this;exact this
     go_wp2_with (at_builtin;refine vay _ rfl _ _ 64 rfl wl.heap.size 124 X (.agg #[.int .i64 0,.int .i64 0]) 2 16 underlying64 G H I J rfl jd _ _ _ rfl (U.alloc _) ⟨wr.heap.size,0,none⟩ 1 1 [.int .i64 x.1,.int .i64 x.2] rfl rfl (qcb (wr.drewN nq) _ _ _) jV jl jo jso ?_;intro v' V a1 a0 _);exact ⟨⟨j + 1,_,by go_num,by omega,HE.out.symm,(by show V.ownsRow _ _ _ _ ((#[]:Array (Int×Int)).push x).size (flatK encR 2 (#[].push x)).toList;rw [vbk,qax qbj,qdl];exact a1),qes (qaj hb nq) b7 U a0⟩,by simp [intOf];omega⟩
    obtain ⟨g0,F,rfl,g2,e9,hH⟩:=qbl z (by
     rintro rfl;obtain ⟨_,⟨_,h'⟩ | ⟨_,_,_,e,_⟩⟩:=z
     .omega
     cases e)
    have b4:=f8.out.at_ (k:=a.size - 1) jo;have Z:=(hH ((a.size - 1) * 2 + 1) (by rw [size_flatK];omega)).1;rw [vcc,qfw _ _ _ _ _ jo jd] at Z;have HP:Hid (¬ (x.1<=a[a.size - 1]!.2 + 1)->(u.toList.take (j + 1)).foldl addF #[]=a.push x):=fun h=>HS.out.trans (qrs fun h'=>h h'.2)
    have HJ:Hid (x.1<=a[a.size - 1]!.2 + 1->a[a.size - 1]!.2 < x.2->(u.toList.take (j + 1)).foldl addF #[]=a.set! (a.size - 1) (a[a.size - 1]!.1,x.2)):=fun h h'=>HS.out.trans (addF_join h0 h h')
    have HK:Hid (x.1<=a[a.size - 1]!.2 + 1->¬ a[a.size - 1]!.2 < x.2->(u.toList.take (j + 1)).foldl addF #[]=a):=fun h h'=>HS.out.trans (addF_in h0 h h')
    have d5:Hid ((flatK encR 2 (a.set! (a.size - 1) (a[a.size - 1]!.1,x.2))).toList=(flatK encR 2 a).toList.set ((a.size - 1) * 2 + 1) (.int .i64 x.2)):=qhd a (a.size - 1) jo _;have d3:=z.frozenAt ((a.size - 1) * 2 + 1);have g5:=b4.1;have g6:=b4.2.1;have g7:=b4.2.2;clear hH b4 HS;generalize a[a.size - 1]! = y at g5 g6 g7 Z HP HJ HK d5;simp only [encR,vac,vaf] at Z;have p0:(0:Int)<=(a.size:Int) - 1:=by omega
    have p1:(a.size:Int) - 1 < (a.size:Int):=by omega
    have p2:(1:Int)<=(a.size:Int):=by omega
    have p3:decide ((0:Int) < (a.size:Int))=true:=vah jo;have h6:((a.size:Int) - 1).toNat=a.size - 1:=by omega
    have i3:IntKind.i64.wrap ((a.size:Int) - 1)=(a.size:Int) - 1:=by rw [vbc];omega
    have i4:IntKind.i64.wrap (y.2 + 1)=y.2 + 1:=by rw [vbc];omega
    by_cases a3:x.1<=y.2 + 1
    .have f0:decide (x.1<=y.2 + 1)=true:=vah a3
     have d6:=hI a3;clear a3;by_cases a4:y.2 < x.2
     .have f1:decide (y.2 < x.2)=true:=vah a4
      have HE:=hI (HJ.out d6.out a4);clear a4;go_wp2;go_quiet (fail);have E:(wr.drewN nq).ownsRow wl.heap.size 124 2 (.slice (some ⟨g0,0,none⟩) a.size F) a.size (flatK encR 2 a).toList:=z;have a9:=qaj hb nq;have c6:(wr.drewN nq).cell? ⟨b,q + j * 2 + 1,none⟩=some (.int .i64 x.2):=e1;have b0:(wr.drewN nq).cell? ⟨g0,(a.size - 1) * 2 + 1,none⟩=some (.int .i64 y.2):=Z;have e6:(wr.drewN nq).frozen? ⟨g0,(a.size - 1) * 2 + 1,none⟩=false:=d3;clear z hb e0 e1 Z d3 e9 b7;generalize wr.drewN nq=wq at E a9 c6 b0 e6 |-
      go_wp2;go_quiet (fail);go_wp2;obtain ⟨g4,i1⟩:=World.ownsRow.stored (w:=wq.drewN nq) (by exact E) ((a.size - 1) * 2 + 1) (.int .i64 x.2);exact ⟨⟨j + 1,_,by go_num,by omega,HE.out.symm,(by rw [d5.out];simpa using g4),(qaj a9 nq).setCell (p:=⟨g0,_,none⟩) g2 _⟩,by simp [intOf];omega⟩
     have f1:decide (y.2 < x.2)=false:=vab a4;have HE:=hI (HK.out d6.out a4);clear a4;go_wp2;go_quiet (fail);have E:(wr.drewN nq).ownsRow wl.heap.size 124 2 (.slice (some ⟨g0,0,none⟩) a.size F) a.size (flatK encR 2 a).toList:=z;have a9:=qaj hb nq;have c6:(wr.drewN nq).cell? ⟨b,q + j * 2 + 1,none⟩=some (.int .i64 x.2):=e1;have b0:(wr.drewN nq).cell? ⟨g0,(a.size - 1) * 2 + 1,none⟩=some (.int .i64 y.2):=Z;clear z hb e0 e1 Z d3 e9 b7;generalize wr.drewN nq=wq at E a9 c6 b0 |-
     go_wp2;go_quiet (fail);go_wp2;exact ⟨⟨j + 1,_,by go_num,by omega,HE.out.symm,E,qaj a9 nq⟩,by simp [intOf];omega⟩
    have f0:decide (x.1<=y.2 + 1)=false:=vab a3;have HE:=hI (HP.out a3);clear a3;go_wp2;go_quiet (fail);have U:(wr.drewN nq).ownsRow wl.heap.size 124 2 (.slice (some ⟨g0,0,none⟩) a.size F) a.size (flatK encR 2 a).toList:=z;go_wp2_with (at_builtin;refine vay _ rfl _ _ 64 rfl wl.heap.size 124 X (.agg #[.int .i64 0,.int .i64 0]) 2 16 underlying64 G H I J rfl jd _ _ _ rfl (U.alloc _) ⟨wr.heap.size,0,none⟩ 1 1 [.int .i64 x.1,.int .i64 x.2] rfl rfl (qcb (wr.drewN nq) _ _ _) jV jl jo jso ?_;intro v' V a1 a0 _);exact ⟨⟨j + 1,_,by go_num,by omega,HE.out.symm,(by rw [vbk,qax qbj];exact a1),qes (qaj hb nq) b7 U a0⟩,by simp [intOf];omega⟩
   obtain rfl:j=u.size:=by omega
   have HE:Hid (a=qhc u.toList):=by show _=_;rw [ho,vaz js];rfl
   have b8:Hid (IsN (inR d) a/\a.size<=d.size):=by rw [HE.out];exact f7.out
   have h3:¬ (u.size:Int) < (u.size:Int):=by omega
   clear ho;go_wp2;go_ret;exact ⟨_,rfl,a,by rw [f5.out];exact b8.out.1,by rw [f6.out];exact b8.out.2,qbq z (qaa d4.out c4.out).size,qaa (qaa d4.out c4.out) hb⟩
end
def KnG (B:Nat) (w:World) (v:Value) (k:KN):Prop:=∃ A1 c1 A2 c2,v=.agg #[.int .i64 k.base,.slice A1 k.rs.size c1,.slice A2 k.ats.size c2]/\RdK encR 2 w.heap.size w A1 k.rs/\RdK qae 2 w.heap.size w A2 k.ats/\(A1=none->c1=0)/\(A2=none->c2=0)/\(0 < k.rs.size->∀ g off,A1=some ⟨g,off,none⟩->B<=g)/\(∀ g off,A2=some ⟨g,off,none⟩->B<=g)
theorem KnG.knV {B:Nat} {w:World} {v:Value} {k:KN} (h:KnG B w v k):KnV w v k:=by
 obtain ⟨a,c,b,d,e,f,g,i,j,_,_⟩:=h;exact ⟨a,c,b,d,e,f,g,i,j⟩
theorem qwp (n:Int):∀ l:List (Int×Int),(woL n l).length<=2 * l.length
 | []=>by simp [woL]
 | r :: l=>by
   have e:woL n (r :: l)=wo1 n r ++ woL n l:=by simp [woL]
   have:=(qut n r).1
   have:=qwp n l
   rw [e,vdk,vdy];omega
theorem qjr (w:World) (o:Obj) (u v:Value) (e:TypeId):∀ (j:Nat) (x:Value),[u,v][j]?=some x->((w.alloc o).alloc (.cells #[u,v] e)).cell? (Addr.add ⟨w.heap.size + 1,0,none⟩ j)=some x:=fun j x a=>by
 have:=qcb (w.alloc o) u v e j x a
 rwa [show (w.alloc o).heap.size=w.heap.size + 1 by simp] at this
theorem qjs {w d:World} {v a b:Value} {e:TypeId} {o:Obj} (c:∀ k,v.ownBlock=some k->k < w.heap.size) (f:((w.alloc (.cells #[a,b] e)).alloc o).grownBy d v.ownBlock):d.cell? ⟨w.heap.size,1,none⟩=some b:=by
 rw [f.cell_far ⟨w.heap.size,1,none⟩ jso (fun h=>by have:=c _ h.symm;simp at this)];exact (vbq (w.alloc (.cells #[a,b] e)) o ⟨w.heap.size,1,none⟩ js).trans (qau w _ _ 1)
def OwnOr (w:World) (A A1:Option Addr) (out d1:Array (Int×Int)):Prop:=0 < out.size->∀ g off,A=some ⟨g,off,none⟩->w.heap.size<=g\/(A=A1/\out=d1)
theorem wo_any (A:Option Addr) (c:Nat) (d:Array (Int×Int)) (n:Int) (w:World) (h:RdK encR 2 w.heap.size w A d) (hd:d.size<=100000) (hn : -1000000<=n/\n<=1000000) :
 Calls prog 96 #[.slice A d.size c,.int .i64 n] w fun e V=>∃ v,e=.returned v/\V.ownsRow w.heap.size 124 2 v (woL n d.toList).toArray.size (flatK encR 2 (woL n d.toList).toArray).toList/\Below w.heap.size w V:=by
 obtain ⟨H,r,s,t,u⟩:=vbo qda;have Y:=hI h;obtain ⟨n1,n2⟩:=hn;clear h;have wm:IntKind.i64.wrap (n - 1)=n - 1:=by rw [vbc];omega
 have wp:IntKind.i64.wrap (n + 1)=n + 1:=by rw [vbc];omega
 go_in;go_wp2
 go_loopw [5,6] (fun v Q wr=>∃ (j:Nat) (l:Array (Int×Int)),Q=.int .i64 (j:Int)/\j<=d.size/\(woL n (d.toList.take j)).toArray=l/\wr.ownsRow w.heap.size 124 2 v l.size (flatK encR 2 l).toList/\Below w.heap.size w wr) (fun _ Q _=>d.size - (intOf Q).toNat)
 case atStart=>exact ⟨0,#[],rfl,vaj _,rfl,qbk _ _ _ _ _,vag _ _⟩
 case round =>
  obtain ⟨j,l,rfl,hj,K,g,B⟩:=hrel;have a1:l.size<=2 * j:=by
   have:=qwp n (d.toList.take j)
   rw [<-K];simp at this |-
   omega
  by_cases J:j < d.size
  .have jz:(j:Int) < (d.size:Int):=by omega
   obtain ⟨b,a2,rfl,a0,f⟩:=(Y.out.below B).at_ J;have R:=f 0 jo;have S:=f 1 jo;have o:Hid ((woL n (d.toList.take (j + 1))).toArray=l ++ (wo1 n d[j]!).toArray):=by show _=_;rw [qcv J,<-K];simp [woL]
   obtain ⟨x,U⟩:∃ x,d[j]! = x:=⟨_,rfl⟩
   rw [U] at R S o;simp only [vak,encR,vac,vaf] at R S;clear f U K;have z:Hid (∀ k,u5.ownBlock=some k->k < wr.heap.size):=fun k hk=>(g.lt k hk).2
   have F:=B.size;by_cases y:n < x.1
   .have Z:decide (n < x.1)=true:=vah y
    by_cases q:x.1<=x.2
    .have N:decide (x.1<=x.2)=true:=vah q
     have p:Hid ((woL n (d.toList.take (j + 1))).toArray=l.push x):=by show _=_;rw [o.out];unfold wo1;rw [vam (Or.inl y),vam q];first | (simp;done) | (simp;exact vda.1 js)
     clear y q o;go_wp2_with (at_builtin;refine vay _ rfl _ _ 64 rfl w.heap.size 124 H (.agg #[.int .i64 0,.int .i64 0]) 2 16 underlying64 r s t u rfl jd _ _ _ rfl ((g.alloc _).alloc _) ⟨wr.heap.size + 1,0,none⟩ 1 1 [.int .i64 x.1,.int .i64 x.2] rfl rfl (qjr wr _ _ _ _) jV jl jo jso ?_;intro L I i a _;have m:=qhh B F g a;have M:=qjs z.out a);exact ⟨⟨j + 1,_,by go_num,by omega,p.out,(by rw [vbk,qax qbj];exact i),m⟩,by simp [intOf];omega⟩
    have N:decide (x.1<=x.2)=false:=vab q;have p:Hid ((woL n (d.toList.take (j + 1))).toArray=l):=by show _=_;rw [o.out];unfold wo1;rw [vam (Or.inl y),vao q];first | (simp;done) | (simp;exact vda.1 js)
    clear y q o;go_wp2;exact ⟨⟨j + 1,l,by go_num,by omega,p.out,g.alloc _,B.alloc F _⟩,by simp [intOf];omega⟩
   have Z:decide (n < x.1)=false:=vab y;by_cases C:x.2 < n
   .have d2:decide (x.2 < n)=true:=vah C
    by_cases q:x.1<=x.2
    .have N:decide (x.1<=x.2)=true:=vah q
     have p:Hid ((woL n (d.toList.take (j + 1))).toArray=l.push x):=by show _=_;rw [o.out];unfold wo1;rw [vam (Or.inr C),vam q];first | (simp;done) | (simp;exact vda.1 js)
     clear y C q o;go_wp2_with (at_builtin;refine vay _ rfl _ _ 64 rfl w.heap.size 124 H (.agg #[.int .i64 0,.int .i64 0]) 2 16 underlying64 r s t u rfl jd _ _ _ rfl ((g.alloc _).alloc _) ⟨wr.heap.size + 1,0,none⟩ 1 1 [.int .i64 x.1,.int .i64 x.2] rfl rfl (qjr wr _ _ _ _) jV jl jo jso ?_;intro L I i a _;have m:=qhh B F g a;have M:=qjs z.out a);exact ⟨⟨j + 1,_,by go_num,by omega,p.out,(by rw [vbk,qax qbj];exact i),m⟩,by simp [intOf];omega⟩
    have N:decide (x.1<=x.2)=false:=vab q;have p:Hid ((woL n (d.toList.take (j + 1))).toArray=l):=by show _=_;rw [o.out];unfold wo1;rw [vam (Or.inr C),vao q];first | (simp;done) | (simp;exact vda.1 js)
    clear y C q o;go_wp2;exact ⟨⟨j + 1,l,by go_num,by omega,p.out,g.alloc _,B.alloc F _⟩,by simp [intOf];omega⟩
   have d2:decide (x.2 < n)=false:=vab C;have E:¬ (n < x.1\/x.2 < n):=by omega
   by_cases c4:x.1 < n
   .have d4:decide (x.1 < n)=true:=vah c4
    by_cases c5:n < x.2
    .have O:decide (n < x.2)=true:=vah c5
     have p:Hid ((woL n (d.toList.take (j + 1))).toArray=(l.push (x.1,n - 1)).push (n + 1,x.2)):=by show _=_;rw [o.out];unfold wo1;rw [vao E,vam c4,vam c5];first | (simp;done) | (simp;exact vda.1 js)
     clear y C c4 c5 E o
     go_wp2_with (first
      | (at_builtin;refine vay _ rfl _ _ 64 rfl w.heap.size 124 H (.agg #[.int .i64 0,.int .i64 0]) 2 16 underlying64 r s t u rfl jd _ _ _ rfl ((g.alloc _).alloc _) ⟨wr.heap.size + 1,0,none⟩ 1 1 [.int .i64 x.1,.int .i64 (n - 1)] rfl rfl (qjr wr _ _ _ _) jV jl jo jso ?_;intro L I i a _;have m:=qhh B F g a;have M:=qjs z.out a)
      | (at_builtin;refine vay _ rfl _ _ 64 rfl w.heap.size 124 H (.agg #[.int .i64 0,.int .i64 0]) 2 16 underlying64 r s t u rfl jd _ _ _ rfl (i.alloc _) ⟨I.heap.size,0,none⟩ 1 1 [.int .i64 (n + 1),.int .i64 x.2] rfl rfl (qcb I _ _ _) jV jl jo (by have:=m.size;simp;omega) ?_;intro v3 w3 G D _;have P:=qes m m.size i D))
     exact ⟨⟨j + 1,_,by go_num,by omega,p.out,(by rw [vbk,qax qbj,vbk,qax qbj];exact G),P⟩,by simp [intOf];omega⟩
    have O:decide (n < x.2)=false:=vab c5;have p:Hid ((woL n (d.toList.take (j + 1))).toArray=l.push (x.1,n - 1)):=by show _=_;rw [o.out];unfold wo1;rw [vao E,vam c4,vao c5];first | (simp;done) | (simp;exact vda.1 js)
    clear y C c4 c5 E o;go_wp2_with (at_builtin;refine vay _ rfl _ _ 64 rfl w.heap.size 124 H (.agg #[.int .i64 0,.int .i64 0]) 2 16 underlying64 r s t u rfl jd _ _ _ rfl ((g.alloc _).alloc _) ⟨wr.heap.size + 1,0,none⟩ 1 1 [.int .i64 x.1,.int .i64 (n - 1)] rfl rfl (qjr wr _ _ _ _) jV jl jo jso ?_;intro L I i a _;have m:=qhh B F g a;have M:=qjs z.out a);exact ⟨⟨j + 1,_,by go_num,by omega,p.out,(by rw [vbk,qax qbj];exact i),m⟩,by simp [intOf];omega⟩
   have d4:decide (x.1 < n)=false:=vab c4;by_cases c5:n < x.2
   .have O:decide (n < x.2)=true:=vah c5
    have p:Hid ((woL n (d.toList.take (j + 1))).toArray=l.push (n + 1,x.2)):=by show _=_;rw [o.out];unfold wo1;rw [vao E,vao c4,vam c5];first | (simp;done) | (simp;exact vda.1 js)
    clear y C c4 c5 E o;go_wp2_with (at_builtin;refine vay _ rfl _ _ 64 rfl w.heap.size 124 H (.agg #[.int .i64 0,.int .i64 0]) 2 16 underlying64 r s t u rfl jd _ _ _ rfl ((g.alloc _).alloc _) ⟨wr.heap.size + 1,0,none⟩ 1 1 [.int .i64 (n + 1),.int .i64 x.2] rfl rfl (qjr wr _ _ _ _) jV jl jo jso ?_;intro L I i a _;have m:=qhh B F g a;have M:=qjs z.out a);exact ⟨⟨j + 1,_,by go_num,by omega,p.out,(by rw [vbk,qax qbj];exact i),m⟩,by simp [intOf];omega⟩
   have O:decide (n < x.2)=false:=vab c5;have p:Hid ((woL n (d.toList.take (j + 1))).toArray=l):=by show _=_;rw [o.out];unfold wo1;rw [vao E,vao c4,vao c5];first | (simp;done) | (simp;exact vda.1 js)
   clear y C c4 c5 E o;go_wp2;exact ⟨⟨j + 1,l,by go_num,by omega,p.out,g.alloc _,B.alloc F _⟩,by simp [intOf];omega⟩
  have T:¬ (j:Int) < (d.size:Int):=by omega
  have X:Hid (l=(woL n d.toList).toArray):=by show _=_;rw [<-K,vaz jso]
  clear K;go_wp2;go_ret;exact ⟨_,rfl,by have:=g;rw [X.out] at this;exact this,B⟩
theorem qun (k:Option Addr) (c1:Nat) (a:Array (Int×Int)) (r:Int×Int) (w:World) (K:RdK encR 2 w.heap.size w k a) (n1:k=none->c1=0) :
 Calls prog 184 #[.slice k a.size c1,.agg #[.int .i64 r.1,.int .i64 r.2]] w fun e L=>∃ A o c,e=.returned (.slice A o.size c)/\LessE a r o/\RdK encR 2 L.heap.size L A o/\(A=none->c=0)/\OwnOr w A k o a/\Below w.heap.size w L:=by
 have u:=hI n1;clear n1;have M:=hI ((K.alloc (vaa _) (.cells #[.int .i64 r.1,.int .i64 r.2] 124)).mono (show w.heap.size<=(w.alloc (.cells #[.int .i64 r.1,.int .i64 r.2] 124)).heap.size by simp));by_cases m:qam a=0
 .have R:(qam a != 0)=false:=by simp [m]
  have J:=hI m;have Q:=(qcy m).1;clear m;go_in;go_wp2_with fail;refine (qdw _ _ a _ _ M.out).mono ?_;rintro e i ⟨rfl,q,f⟩;have b:Below w.heap.size w i:=by rw [f];exact qaj (bel1 _ _) q
  have V:i.cell? ⟨w.heap.size,0,none⟩=some (.int .i64 r.1):=by rw [f];exact qau w #[.int .i64 r.1,.int .i64 r.2] _ 0
  have X:i.cell? ⟨w.heap.size,1,none⟩=some (.int .i64 r.2):=by rw [f];exact qau w #[.int .i64 r.1,.int .i64 r.2] _ 1
  clear f;have S:RdK encR 2 (i.alloc (.cells #[.int .i64 r.1,.int .i64 r.2] 124)).heap.size (i.alloc (.cells #[.int .i64 r.1,.int .i64 r.2] 124)) k a:=(((K.below b).mono b.size).alloc (vaa _) _).mono js;have T:RdK encR 2 (i.alloc (.cells #[.int .i64 r.1,.int .i64 r.2] 124)).heap.size (i.alloc (.cells #[.int .i64 r.1,.int .i64 r.2] 124)) (some ⟨i.heap.size,0,none⟩) #[r]:=(RdK.new i encR 2 #[r] 124 #[.int .i64 r.1,.int .i64 r.2] (qxi [r])).mono js;have O:Hid (Calls prog 231 #[.slice k a.size c1,.slice (some ⟨i.heap.size,0,none⟩) 1 1] _ _):=hI (of_any_R k c1 a (some ⟨i.heap.size,0,none⟩) 1 #[r] _ S T u.out (fun h=>by cases h) jso);go_wp2_with fail;refine O.out.mono ?_;rintro e N ⟨Z,rfl,d,x⟩;have l:Below w.heap.size w N:=qaa (qab b _) x;have v:=RdV.own d;have E:Hid (LessE a r (fitE (ofE a #[r]) a)):=⟨fun m=>(ofE_fit a #[r] a).congr (pOf_less m r),fun h=>absurd J.out h⟩
  generalize ofE a #[r]=s at v E;obtain ⟨D,c4,rfl,B,z⟩:=v;have y:∀ g j,D=some ⟨g,j,none⟩->w.heap.size<=g:=fun g j e=>by
   have P:=(d.lt g (by rw [e];rfl)).1;have Y:=b.size;simp at P;omega
  have F:=hI y;clear y;have C:=hI (fits_any D k s.size c4 a.size c1 N);have I:=hI B;have G:=hI z;have H:=hI ((K.below l).mono l.size);have t:=hI l;clear B z d x l b;by_cases n:s.size<=1000
  .rw [vam n] at C
   have p:Hid (LessE a r s):=by have:=E.out;unfold fitE at this;rwa [vam n] at this
   go_wp2_with fail;refine C.out.mono ?_;rintro e U ⟨rfl,rfl⟩;go_wp2;go_ret;exact ⟨D,s,c4,rfl,p.out,I.out,G.out,fun _ g j e=>Or.inl (F.out g j e),t.out⟩
  rw [vao n] at C;have p:Hid (LessE a r a):=by have:=E.out;unfold fitE at this;rwa [vao n] at this
  go_wp2_with fail;refine C.out.mono ?_;rintro e U ⟨rfl,rfl⟩;go_wp2;go_ret;exact ⟨k,a,c1,rfl,p.out,H.out,u.out,fun _ g j e=>Or.inr ⟨rfl,rfl⟩,t.out⟩
 have R:(qam a != 0)=true:=by simpa using m
 have J:=hI m;clear m;go_in;go_wp2_with fail;refine (qdw _ _ a _ _ M.out).mono ?_;rintro e i ⟨rfl,q,f⟩;have b:Below w.heap.size w i:=by rw [f];exact qaj (bel1 _ _) q
 clear f;go_wp2;go_ret;exact ⟨none,#[],0,rfl,⟨fun h=>absurd h J.out,fun _=>rfl⟩,fun h=>absurd h jd,fun _=>rfl,fun h=>absurd h jd,b⟩
theorem RdK.far0 {α:Type} [Inhabited α] {enc:α->List Value} {k B:Nat} {w:World} {A:Option Addr} {d:Array α} (h:RdK enc k B w A d) (p:Addr) (v:Value) (c:0 < d.size->∀ g a,A=some ⟨g,a,none⟩->g≠p.block):RdK enc k B (w.setCell p v) A d:=fun b=>(h.far p v (c b)) b
theorem qrt (f:Int) (j:Option Addr) (c1:Nat) (l:Array (Int×Int)) (C:Option Addr) (E c2:Nat) (w:World) (h:RdK encR 2 w.heap.size w j l) (y:j=none->c1=0) :
 Calls prog 98 #[.int .i64 f,.slice j l.size c1,.slice C E c2] w fun e o=>∃ A a c,e=.returned (.tuple #[.agg #[.int .i64 (preE l f),.slice A a.size c,.slice C E c2],.int .i64 0])/\LessE l (1,preE l f) a/\RdK encR 2 o.heap.size o A a/\(A=none->c=0)/\OwnOr w A j a l/\Below w.heap.size w o:=by
 have K:=hI h;have I:=hI y;have Q:Hid (∀ W,Below w.heap.size w W->Calls prog 183 #[.slice j l.size c1,.int .i64 f] W fun e o=>e=.returned (.int .i64 (preE l f))/\∃ q,o=W.drewN q):=fun W u=>qsk j c1 l f _ W ((h.below u).mono u.size)
 clear h y;generalize preE l f=B at Q |-
 go_in;go_wp2_with fail;refine (Q.out _ (bel1 w _)).mono ?_;rintro e k ⟨rfl,q,n⟩;have z:k.heap.size=w.heap.size + 1:=by rw [n];show (w.alloc _).heap.size=_;simp
 have x:Below w.heap.size w k:=by rw [n];exact qaj (bel1 w _) q
 have i:k.heap[w.heap.size]?=some (.cells #[.int .i64 0,.slice none 0 0,.slice none 0 0] 66 (0,0)):=by rw [n];exact vaw w _
 have r:=hI x;have G:=hI i;clear n x i;have P:Hid (∀ W,Below k.heap.size k W->Calls prog 184 #[.slice j l.size c1,.agg #[.int .i64 1,.int .i64 B]] W fun e o=>∃ A a c,e=.returned (.slice A a.size c)/\LessE l (1,B) a/\RdK encR 2 o.heap.size o A a/\(A=none->c=0)/\OwnOr W A j a l/\Below W.heap.size W o):=fun W u=>qun j c1 l (1,B) W ((K.out.below (qaa r.out u)).mono (qaa r.out u).size) I.out
 go_wp2_with fail;refine (P.out _ (bel1 k _)).mono ?_;rintro e V ⟨A,a,c,rfl,R,T,S,N,m⟩;have H:=hI R;have L:=hI T;have X:=hI S;have F:=hI (qaa r.out (qaa (bel1 k _) m));have t:V.heap[k.heap.size]?=some (.cells #[.int .i64 B,.slice none 0 0,.slice C E c2] 66 (0,0)):=(m.block _ js).trans (vaw k _);have i:V.heap[w.heap.size]?=some (.cells #[.int .i64 0,.slice none 0 0,.slice none 0 0] 66 (0,0)):=(m.block _ jso).trans (qdm G.out);have s:Hid (0 < a.size->∀ g d,A=some ⟨g,d,none⟩->g≠w.heap.size/\g≠k.heap.size):=fun p g d e=>by
  rcases N p g d e with M | ⟨M,h2⟩
  .simp at M
   omega
  subst h2;obtain ⟨b,U,D,u,_⟩:=K.out p;rw [<-M,e] at D;injection D with D
  injection D with e1 e2
  omega
 have J:Hid (OwnOr w A j a l):=fun p g d e=>(N p g d e).imp (fun h=>by simp at h;omega) id
 clear R T S N m P K;rw [z] at t s;obtain ⟨⟨a0,a1,a2⟩,af⟩:=blk3 t;obtain ⟨⟨Y,Z,b2⟩,bf⟩:=blk3 i;clear z i t;go_wp2;refine vau (v:=.tuple #[.agg #[.int .i64 B,.slice A a.size c,.slice C E c2],.int .i64 0]) ?_ rfl ⟨A,a,c,rfl,H.out,?_,X.out,J.out,?_⟩
 .simp [results,results98,go_sem,Y,Z,b2]
 .have O:0 < a.size->∀ g d,A=some ⟨g,d,none⟩->g≠w.heap.size:=fun p g d e=>(s.out p g d e).1
  have q8:0 < a.size->∀ g d,A=some ⟨g,d,none⟩->g≠w.heap.size + 1:=fun p g d e=>(s.out p g d e).2
  exact ((((L.out.far0 ⟨w.heap.size + 1,1,none⟩ _ q8).far0 ⟨w.heap.size,0,none⟩ _ O).far0 ⟨w.heap.size,1,none⟩ _ O).far0 ⟨w.heap.size,2,none⟩ _ O).mono js
 exact (((F.out.setCell js _).setCell js _).setCell js _).setCell js _
