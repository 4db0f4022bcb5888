/- Texts that the law leans on. -/
import Derived.Deep.CutBlock
import Derived.Test.YtdcfffhoajmafaaGreatQMsgF
set_option maxRecDepth 100000
set_option maxHeartbeats 8000000
namespace Go.Proofs.YtdcfffhoajmafaaGreat
open Go.RowKit Nb Go.Proofs.Tryz
theorem hasT_ne (k:Int) (h:¬ (k < 1\/10 < k)):(⟨(hasT k).toArray⟩:ByteArray).toList.isEmpty=false:=by
 have:k=1\/k=2\/k=3\/k=4\/k=5\/k=6\/k=7\/k=8\/k=9\/k=10:=by omega
 rw [vdj];rcases this with rfl | rfl | rfl | rfl | rfl | rfl | rfl | rfl | rfl | rfl <;> rfl
theorem hasT_out (k:Int) (h:k < 1\/10 < k):hasT k=[]:=by unfold hasT;(repeat' rw [vao jo])
theorem rChk_any (m:PM) (w:World) (B:RdM w m) :
 Calls prog 89 #[msgV m] w fun e F=>e=.returned (.int .i64 (qle m))/\Below w.heap.size w F:=by
 have C:=hI (fun W=>qwq m.k W);by_cases S:m.k < 1\/10 < m.k
 .have t:Hid (qle m=30):=by show _=_;unfold qle;rw [vam S]
  obtain ⟨s,T⟩:∃ s:ByteArray,s=⟨(hasT m.k).toArray⟩:=⟨_,rfl⟩
  have q:s.toList.isEmpty=true:=by rw [T,hasT_out _ S,vdj];rfl
  rw [<-T] at C;unfold msgV;clear S B T;go_in;go_wp2_with (go_at_call 177;refine (C.out _).mono ?_;rintro e b ⟨rfl,c⟩;have A:=hI (qaa (bel1 w _) c);clear c);go_ret;exact ⟨by rw [t.out];rfl,A.out⟩
 have q:=hasT_ne _ S;have t:Hid (qle m=if c4 m && c5 m && (if hasB m.k 97 then c7 m else c8 m) && (if hasB m.k 112 then proB m else c11 m) then 0 else 2):=by show _=_;unfold qle;rw [vao S]
 generalize qle m=d7 at t |-
 obtain ⟨s,T⟩:∃ s:ByteArray,s=⟨(hasT m.k).toArray⟩:=⟨_,rfl⟩
 rw [<-T] at C q;unfold msgV;clear S T;go_in;go_wp2_with fail;refine (C.out _).mono ?_;rintro e b ⟨rfl,c⟩;have d:w.heap.size < b.heap.size:=by have:=c.size;simp at this;omega
 have q0:∀ W,Below b.heap.size b W->W.cell? ⟨w.heap.size,0,none⟩=some (.int .i64 m.k):=fun W h=>(h.cell (p:=⟨w.heap.size,0,none⟩) d).trans ((c.cell (p:=⟨w.heap.size,0,none⟩) js).trans js)
 have q1:∀ W,Below b.heap.size b W->W.cell? ⟨w.heap.size,1,none⟩=some (.int .i64 m.fr):=fun W h=>(h.cell (p:=⟨w.heap.size,1,none⟩) d).trans ((c.cell (p:=⟨w.heap.size,1,none⟩) js).trans js)
 have q2:∀ W,Below b.heap.size b W->W.cell? ⟨w.heap.size,2,none⟩=some (.int .i64 m.id):=fun W h=>(h.cell (p:=⟨w.heap.size,2,none⟩) d).trans ((c.cell (p:=⟨w.heap.size,2,none⟩) js).trans js)
 have q3:∀ W,Below b.heap.size b W->W.cell? ⟨w.heap.size,3,none⟩=some (.int .i64 m.t):=fun W h=>(h.cell (p:=⟨w.heap.size,3,none⟩) d).trans ((c.cell (p:=⟨w.heap.size,3,none⟩) js).trans js)
 have q4:∀ W,Below b.heap.size b W->W.cell? ⟨w.heap.size,4,none⟩=some (.int .i64 m.bal):=fun W h=>(h.cell (p:=⟨w.heap.size,4,none⟩) d).trans ((c.cell (p:=⟨w.heap.size,4,none⟩) js).trans js)
 have q5:∀ W,Below b.heap.size b W->W.cell? ⟨w.heap.size,5,none⟩=some (.int .i64 m.abal):=fun W h=>(h.cell (p:=⟨w.heap.size,5,none⟩) d).trans ((c.cell (p:=⟨w.heap.size,5,none⟩) js).trans js)
 have q6:∀ W,Below b.heap.size b W->W.cell? ⟨w.heap.size,6,none⟩=some (.int .i64 m.ph):=fun W h=>(h.cell (p:=⟨w.heap.size,6,none⟩) d).trans ((c.cell (p:=⟨w.heap.size,6,none⟩) js).trans js)
 have q7:∀ W,Below b.heap.size b W->W.cell? ⟨w.heap.size,7,none⟩=some (.int .i64 m.q):=fun W h=>(h.cell (p:=⟨w.heap.size,7,none⟩) d).trans ((c.cell (p:=⟨w.heap.size,7,none⟩) js).trans js)
 have q8:∀ W,Below b.heap.size b W->W.cell? ⟨w.heap.size,8,none⟩=some (.string m.pay):=fun W h=>(h.cell (p:=⟨w.heap.size,8,none⟩) d).trans ((c.cell (p:=⟨w.heap.size,8,none⟩) js).trans js)
 have q9:∀ W,Below b.heap.size b W->W.cell? ⟨w.heap.size,9,none⟩=some (.int .i64 m.lo):=fun W h=>(h.cell (p:=⟨w.heap.size,9,none⟩) d).trans ((c.cell (p:=⟨w.heap.size,9,none⟩) js).trans js)
 have a4:∀ W,Below b.heap.size b W->W.cell? ⟨w.heap.size,10,none⟩=some (.int .i64 m.hi):=fun W h=>(h.cell (p:=⟨w.heap.size,10,none⟩) d).trans ((c.cell (p:=⟨w.heap.size,10,none⟩) js).trans js)
 have a5:∀ W,Below b.heap.size b W->W.cell? ⟨w.heap.size,11,none⟩=some (.slice m.aA m.ats.size m.aC):=fun W h=>(h.cell (p:=⟨w.heap.size,11,none⟩) d).trans ((c.cell (p:=⟨w.heap.size,11,none⟩) js).trans js)
 have a6:∀ W,Below b.heap.size b W->W.cell? ⟨w.heap.size,12,none⟩=some (.slice m.mA m.mks.size m.mC):=fun W h=>(h.cell (p:=⟨w.heap.size,12,none⟩) d).trans ((c.cell (p:=⟨w.heap.size,12,none⟩) js).trans js)
 have a7:∀ W,Below b.heap.size b W->W.cell? ⟨w.heap.size,13,none⟩=some (.int .i64 m.dn):=fun W h=>(h.cell (p:=⟨w.heap.size,13,none⟩) d).trans ((c.cell (p:=⟨w.heap.size,13,none⟩) js).trans js)
 have x:=hI (fun W h=>(And.intro (q0 W h) (And.intro (q1 W h) (And.intro (q2 W h) (And.intro (q3 W h) (And.intro (q4 W h) (And.intro (q5 W h) (And.intro (q6 W h) (And.intro (q7 W h) (And.intro (q8 W h) (And.intro (q9 W h) (And.intro (a4 W h) (And.intro (a5 W h) (And.intro (a6 W h) (a7 W h)))))))))))))));have r1:=q1 b (vag _ _);have r2:=q2 b (vag _ _);have U:=q0 b (vag _ _);have A:=hI (qaa (bel1 w _) c);have L:=hI (fun W=>qos m.id W);clear q0 q1 q2 q3 q4 q5 q6 q7 q8 q9 a4 a5 a6 a7 c;go_upto_region 4 with (go_at_call 117;refine (L.out _).mono ?_;rintro e F ⟨rfl,rfl⟩)
 go_cut [5] from 16 to 166 (fun v R=>v=.bool (c4 m)/\Below b.heap.size b R)
 case first =>
  have HH:=hI (fun W=>qkm m.k 105 W);have k:Hid (c4 m=(decide (1<=m.fr) && decide (m.fr<=9) && (okId m.id == hasB m.k 105) && (okId m.id || decide (m.id=0)))):=rfl;have c1:=qrw m.id;generalize hasB m.k 105=f at HH k;generalize okId m.id=oi at k c1;clear B q C t L;by_cases h1:1<=m.fr
  .by_cases h9:m.fr<=9
   .have h0:=beqI m.id 0
    have M:decide (1<=m.fr)=true:=by simp;omega
    have N:decide (m.fr<=9)=true:=by simp;omega
    rw [M,N] at k;generalize decide (m.id=0)=z at h0 k;cases z <;> cases oi <;> cases f
    all_goals as_aux_lemma =>
     go_wp2_with (go_at_call 178;refine (HH.out _).mono ?_;rintro e w2 ⟨rfl,u⟩;have j:=hI u;have d6:=(x.out w2 u).2.2.1;clear u);go_meet;exact ⟨by rw [k.out];rfl,j.out⟩
   have N:decide (m.fr<=9)=false:=by simp;omega
   rw [N] at k;go_wp2_with fail;go_meet;exact ⟨by rw [k.out];simp,vag _ _⟩
  have M:decide (1<=m.fr)=false:=by simp;omega
  rw [M] at k;go_wp2_with fail;go_meet;exact ⟨by rw [k.out];simp,vag _ _⟩
 -- THE REST
 obtain ⟨r,a2⟩:=hcut;subst r;have g:=hI a2;clear a2 U r1 r2 L;generalize D:c4 m=b4 at t;clear D;go_upto_region 5 with (fail)
 go_cut [5] from 41 to 166 (fun v R=>v=.bool (b4 && c5 m)/\Below b.heap.size b R)
 case first =>
  have k:Hid (c5 m=(inB (hasB m.k 116) m.t 1 1000000 && inB (hasB m.k 98) m.bal 1 1000000 && inB (hasB m.k 99) m.q 1 511 && decide (m.pay.size<=300) && (hasB m.k 99 || decide (m.pay=⟨#[]⟩)))):=rfl;have q0:∀ p:ExtW wc,p.to.cell? ⟨w.heap.size,0,none⟩=some (.int .i64 m.k):=fun p=>(x.out p.to (g.out.trans (p.h.mono g.out.size))).1
  have q3:∀ p:ExtW wc,p.to.cell? ⟨w.heap.size,3,none⟩=some (.int .i64 m.t):=fun p=>(x.out p.to (g.out.trans (p.h.mono g.out.size))).2.2.2.1
  have q4:∀ p:ExtW wc,p.to.cell? ⟨w.heap.size,4,none⟩=some (.int .i64 m.bal):=fun p=>(x.out p.to (g.out.trans (p.h.mono g.out.size))).2.2.2.2.1
  have q7:∀ p:ExtW wc,p.to.cell? ⟨w.heap.size,7,none⟩=some (.int .i64 m.q):=fun p=>(x.out p.to (g.out.trans (p.h.mono g.out.size))).2.2.2.2.2.2.2.1
  have q8:∀ p:ExtW wc,p.to.cell? ⟨w.heap.size,8,none⟩=some (.string m.pay):=fun p=>(x.out p.to (g.out.trans (p.h.mono g.out.size))).2.2.2.2.2.2.2.2.1
  have G:Hid (∀ W,Calls prog 178 #[.int .i64 m.k,.int .u8 116] W fun e F=>e=.returned (.bool (hasB m.k 116))/\Below W.heap.size W F):=fun W=>qkm m.k 116 W
  have V:Hid (∀ W,Calls prog 178 #[.int .i64 m.k,.int .u8 98] W fun e F=>e=.returned (.bool (hasB m.k 98))/\Below W.heap.size W F):=fun W=>qkm m.k 98 W
  have X:Hid (∀ W,Calls prog 178 #[.int .i64 m.k,.int .u8 99] W fun e F=>e=.returned (.bool (hasB m.k 99))/\Below W.heap.size W F):=fun W=>qkm m.k 99 W
  have I1:=hI (fun W=>in_any (hasB m.k 116) m.t 1 1000000 W);have I2:=hI (fun W=>in_any (hasB m.k 98) m.bal 1 1000000 W);have I3:=hI (fun W=>in_any (hasB m.k 99) m.q 1 511 W);generalize inB (hasB m.k 116) m.t 1 1000000=i1 at I1 k;generalize inB (hasB m.k 98) m.bal 1 1000000=i2 at I2 k;generalize inB (hasB m.k 99) m.q 1 511=i3 at I3 k;generalize hasB m.k 116=f1 at G I1;generalize hasB m.k 98=f2 at V I2;generalize hasB m.k 99=f3 at X I3 k;clear B q C t;obtain ⟨P,hP⟩:∃ P,decide ((m.pay.size:Int)<=300)=P:=⟨_,rfl⟩
  obtain ⟨E,hE⟩:∃ E,m.pay.toList.isEmpty=E:=⟨_,rfl⟩
  have HV:Hid (c5 m=(i1 && i2 && i3 && P && (f3 || E))):=by
   show _=_;rw [k.out,<-hP,<-hE,vee.2 (show m.pay.size<=300↔(m.pay.size:Int)<=300 by omega)];congr 2;rw [vdj,vbd,vap]
   constructor
   .intro h;rw [h];rfl
   intro h;cases hd:m.pay.data.toList with
   | nil=>exact ByteArray.ext (Array.ext' (by rw [hd]))
   | cons a l=>rw [hd] at h;cases h
  have hc:b4=false\/b4=true/\(i1=false\/i1=true/\(i2=false\/i2=true/\(i3=false\/i3=true/\(P=false\/P=true/\(f3=true\/f3=false/\(E=true\/E=false)))))):=by
   cases b4 <;> cases i1 <;> cases i2 <;> cases i3 <;> cases P <;> cases f3 <;> cases E <;> simp
  clear k;rcases hc with rfl | ⟨rfl,rfl | ⟨rfl,rfl | ⟨rfl,rfl | ⟨rfl,rfl | ⟨rfl,rfl | ⟨rfl,rfl | rfl⟩⟩⟩⟩⟩⟩
  all_goals
   as_aux_lemma =>
    refine wprX ?_
    repeat (go_big_quiet_step ((first | (go_at_call 178;(first | (with_reducible exact Calls.ext_of (G.out _)) | (with_reducible exact Calls.ext_of (V.out _)) | (with_reducible exact Calls.ext_of (X.out _)))) | (go_at_call 179;(first | (with_reducible exact Calls.ext_same (I1.out _)) | (with_reducible exact Calls.ext_same (I2.out _)) | (with_reducible exact Calls.ext_same (I3.out _)))))))
    refine wpQn fun F a1=>?_
    have a9:=hI (g.out.trans (a1.mono g.out.size));clear a1;go_wp2;go_meet;exact ⟨by rw [HV.out];simp,a9.out⟩
 obtain ⟨r,O⟩:=hcut;subst r;have I:=hI O;have U:=(x.out _ O).1;have H:=hI (fun W=>qkm m.k 97 W);generalize (b4 && c5 m)=b5 at t;clear O g;generalize hasB m.k 97=f4 at H t;go_upto_if 84 with (go_at_call 178;refine (H.out _).mono ?_;rintro e w2 ⟨rfl,u⟩;have j:=hI (I.out.trans (u.mono I.out.size));clear u)
 go_cut [5] from 85 to 166 (fun v R=>v=.bool (b5 && (if f4 then c7 m else c8 m))/\Below b.heap.size b R)
 case first =>
  have o:Hid (c7 m=(decide (0<=m.abal) && decide (m.abal < m.bal) && decide (1<=m.ph) && decide (m.ph<=4) && (decide (0 < m.abal) || decide (3<=m.ph)))):=rfl;have K:Hid (c8 m=(decide (m.abal=0) && decide (m.ph=0))):=rfl;have r4:=(x.out _ j.out).2.2.2.2.1;have r5:=(x.out _ j.out).2.2.2.2.2.1;have r6:=(x.out _ j.out).2.2.2.2.2.2.1;clear B q C t U H;cases b5
  case false =>
   cases f4
   all_goals
    as_aux_lemma =>
     go_wp2;go_meet;exact ⟨by simp,j.out⟩
  cases f4
  case false =>
   have e1:=beqI m.abal 0;have e2:=beqI m.ph 0;generalize decide (m.abal=0)=x1 at e1 K;generalize decide (m.ph=0)=x2 at e2 K;cases x1 <;> cases x2
   all_goals
    as_aux_lemma =>
     go_wp2;go_meet;exact ⟨by rw [K.out];rfl,j.out⟩
  generalize b1:decide (0<=m.abal)=d0 at o;generalize b2:decide (m.abal < m.bal)=d1 at o;generalize b3:decide (1<=m.ph)=d2 at o;generalize b8:decide (m.ph<=4)=d3 at o;generalize b9:decide (0 < m.abal)=d4 at o;generalize c0:decide (3<=m.ph)=d5 at o;have hc:d0=false\/d0=true/\(d1=false\/d1=true/\(d2=false\/d2=true/\(d3=false\/d3=true/\(d4=true\/d4=false/\(d5=true\/d5=false))))):=by
   clear b1 b2 b3 b8 b9 c0;cases d0 <;> cases d1 <;> cases d2 <;> cases d3 <;> cases d4 <;> cases d5 <;> simp
  rcases hc with rfl | ⟨rfl,rfl | ⟨rfl,rfl | ⟨rfl,rfl | ⟨rfl,rfl | ⟨rfl,rfl | rfl⟩⟩⟩⟩⟩
  all_goals
   as_aux_lemma =>
    go_wp2;go_meet;exact ⟨by rw [o.out];simp,j.out⟩
 obtain ⟨r,Q⟩:=hcut;subst r;have J:=hI Q;have U:=(x.out _ Q).1;have y:=hI (fun W=>qkm m.k 112 W);generalize (b5 && (if f4 then c7 m else c8 m))=b6 at t;clear Q I j;generalize hasB m.k 112=f5 at y t;go_upto_if 131 with (go_at_call 178;refine (y.out _).mono ?_;rintro e w3 ⟨rfl,a0⟩;have n:=hI (J.out.trans (a0.mono J.out.size));clear a0)
 go_cut [5] from 132 to 166 (fun v R=>v=.bool (b6 && (if f5 then proB m else c11 m))/\Below b.heap.size b R)
 case first =>
  have i:Hid (c11 m=(decide (m.lo=0) && decide (m.hi=0) && decide (m.dn=0) && decide (m.ats.size=0) && decide (m.mks.size=0))):=rfl;obtain ⟨p0,p1,p2,p3,p4,p5,p6,p7,p8,p9,c2,c3,c6,c9⟩:=x.out _ n.out;have Z:=hI (fun W (h:Below b.heap.size b W)=>rPro_all m.k m.fr m.id m.t m.bal m.abal m.ph m.q m.pay m.lo m.hi m.aA m.aC m.ats m.mA m.mC m.mks m.dn W (B.next (qaa A.out h)).ra (B.next (qaa A.out h)).rm B.sa B.sm);have Y:Hid (proX m.lo m.hi m.dn m.ats m.mks=proB m):=rfl;rw [Y.out] at Z;clear B q C t U y Y;cases b6
  case false =>
   cases f5
   all_goals
    go_wp2;go_meet;exact ⟨by simp,n.out⟩
  cases f5
  case true =>
   go_wp2_with (go_at_call 180;refine (Z.out _ n.out).mono ?_;rintro e w4 ⟨rfl,D⟩;have a8:=hI (n.out.trans (D.mono n.out.size));clear D);go_meet;exact ⟨by simp,a8.out⟩
  have e1:=beqI m.lo 0;have e2:=beqI m.hi 0;have e3:=beqI m.dn 0;have e4:((m.ats.size:Int) == 0)=decide (m.ats.size=0):=by rw [beqI];exact vee.2 jo
  have e5:((m.mks.size:Int) == 0)=decide (m.mks.size=0):=by rw [beqI];exact vee.2 jo
  generalize decide (m.lo=0)=x1 at e1 i;generalize decide (m.hi=0)=x2 at e2 i;generalize decide (m.dn=0)=x3 at e3 i;generalize decide (m.ats.size=0)=x4 at e4 i;generalize decide (m.mks.size=0)=x5 at e5 i;have hc:x1=false\/x1=true/\(x2=false\/x2=true/\(x3=false\/x3=true/\(x4=false\/x4=true/\(x5=false\/x5=true)))):=by
   cases x1 <;> cases x2 <;> cases x3 <;> cases x4 <;> cases x5 <;> simp
  rcases hc with rfl | ⟨rfl,rfl | ⟨rfl,rfl | ⟨rfl,rfl | ⟨rfl,rfl | rfl⟩⟩⟩⟩
  all_goals
   as_aux_lemma =>
    go_wp2;go_meet;exact ⟨by rw [i.out];simp,n.out⟩
 obtain ⟨r,a3⟩:=hcut;subst r;have b0:=hI (qaa A.out a3);generalize (b6 && (if f5 then proB m else c11 m))=b7 at t;clear a3 J n B q C U;cases b7
 all_goals
  go_wp2;go_ret;exact ⟨by rw [t.out];rfl,b0.out⟩
