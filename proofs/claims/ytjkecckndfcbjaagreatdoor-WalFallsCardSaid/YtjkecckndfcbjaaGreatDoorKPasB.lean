/- Texts that the law leans on. -/
import Derived.Test.YtjkecckndfcbjaaGreatDoorKPasA
import Derived.Test.YtjkecckndfcbjaaGreatDoorKOpenW
import Derived.Test.YtjkecckndfcbjaaGreatDoorKAnyE
import Derived.Test.YtjkecckndfcbjaaGreatDoorKDskC
import Derived.Test.YtjkecckndfcbjaaGreatDoorKWalA
namespace Go.Proofs.YtjkecckndfcbjaaGreatDoor
open Go.RowKit Go.Sort Crc Nb
set_option maxRecDepth 100000
theorem qko {W:World} {g:Nat} {t:TypeId} {x0 x1 x2 x3 x4 x5 x6:Value} (h:W.heap[g]?=some (.cells #[x0,x1,x2,x3,x4,x5,x6] t (0,0))):W.cell? ⟨g,0,none⟩=some x0∧W.cell? ⟨g,1,none⟩=some x1∧W.cell? ⟨g,2,none⟩=some x2∧W.cell? ⟨g,3,none⟩=some x3∧W.cell? ⟨g,4,none⟩=some x4∧W.cell? ⟨g,5,none⟩=some x5∧W.cell? ⟨g,6,none⟩=some x6:=by
 refine ⟨?_,?_,?_,?_,?_,?_,?_⟩ <;> (rw [qad h];rfl)
theorem qhh {W:World} {B:Nat} {v:Value} {l:List (List UInt8)} (h:W.ownsRow B 9 1 v l.toArray.size (flatK eS 1 l.toArray).toList):∃ A c,v=.slice A l.toArray.size c:=by
 obtain ⟨A,c,e,-,-⟩:=qbj h
 exact ⟨A,c,e⟩
theorem qkp {W:World} {B:Nat} {A:Option Addr} {c:Nat} {l:List (List UInt8)} (h:W.ownsRow B 9 1 (.slice A l.toArray.size c) l.toArray.size (flatK eS 1 l.toArray).toList):RdK eS 1 W.heap.size W A l.toArray:=by
 obtain ⟨A',c',e',hrk,-⟩:=qbj h
 injection e' with e1 e2 e3
 rw [←e1] at hrk
 exact hrk
def RDa (r:RD) (k:Nat):ByteArray×ByteArray×Bool:=if k=0 then (r.a,r.c,r.h) else (r.b,r.e,r.k)
theorem allL_few (s:List UInt8):(allL s).1.length≤s.length:=by
 have:=qhk s
 omega
set_option maxHeartbeats 16000000 in
theorem qyn (d:DK) (fn:Int) (ca cb:CH) (w:World) (hok:d.ok) (ha:ca.trash.size≤2000000) (hb:cb.trash.size≤2000000) :
 Calls Tryz.prog 21 #[rdV (rdOf d),.agg (.int .i64 fn :: (qgq ca ++ qgq cb)).toArray] w fun e w'=>∃ p:Bool,e=.returned (.bool p)∧(p=false→NP d.f0 ca∧NP d.f1 cb)∧Below w.heap.size w w':=by
 have hr:=hok.room
 have hfit:=hok.fit
 have HG0:∀ k,k < 2→(d.get k).s.size≤1000000∧(d.get k).safe≤(d.get k).s.size:=fun k hk=>by
  refine ⟨?_,hok.get k⟩
  unfold DK.get
  split <;> omega
 have HZ:∀ (k:Nat) (c:CH),k < 2→(qbs (d.get k) c).s.size≤1000000:=fun k c hk=>Nat.le_trans (qfp (HG0 k hk).2 c).1 (HG0 k hk).1
 obtain ⟨r,hrd⟩:∃ r,rdOf d=r:=⟨_,rfl⟩
 have HLF:Hid (∀ (k:Nat) (c:CH) (W:World),k < 2→c.trash.size≤2000000→Calls Tryz.prog 54 #[.string (RDa r k).1,.string (RDa r k).2.1,.bool (RDa r k).2.2,chV c] W fun e w'=>e=.returned (.string (qbs (d.get k) c).s)∧Below W.heap.size W w'):=fun k c W hk hc=>by
  have h1:=rLeft_any ((d.get k).s.extract 0 (d.get k).safe) ((d.get k).s.extract (d.get k).safe (d.get k).s.size) (d.get k).half c W (by have:=HG0 k hk;simp;omega) (by have:=HG0 k hk;simp;omega) hc
  rw [rleft_eq (HG0 k hk).2 c] at h1
  have e:RDa r k=((d.get k).s.extract 0 (d.get k).safe,(d.get k).s.extract (d.get k).safe (d.get k).s.size,(d.get k).half):=by
   rw [←hrd]
   unfold RDa DK.get
   split <;> rfl
  rw [e]
  exact h1
 have HAL:Hid (∀ (k:Nat) (c:CH) (W:World),k < 2→Calls Tryz.prog 55 #[.string (qbs (d.get k) c).s] W (AllF (qbs (d.get k) c).s W)):=fun k c W hk=>qre _ W (HZ k c hk)
 have HTa:Hid (ca.trash.size≤2000000):=ha
 have HTb:Hid (cb.trash.size≤2000000):=hb
 have HSZa:Hid (∀ (c:CH) (k:Nat),k < 2→(allL (qbs (d.get k) c).s.data.toList).1.toArray.size≤100000000):=fun c k hk=>by
  have h1:=allL_few (qbs (d.get k) c).s.data.toList
  have h2:=HZ k c hk
  have e:(qbs (d.get k) c).s.data.toList.length=(qbs (d.get k) c).s.size:=by simp
  simp only [List.size_toArray]
  omega
 rw [hrd]
 clear hrd hr hfit HG0 HZ ha hb hok
 obtain ⟨la,lb,lc,le,lh,lk,lR,lO,lM,lD⟩:=r
 obtain ⟨ka,ta,ra⟩:=ca
 obtain ⟨kb,tb,rb⟩:=cb
 dsimp only at HTa HTb
 unfold rdV qcc qgq
 simp only [List.cons_append,List.nil_append]
 go_enter Tryz.func21,Tryz.ntmps21
 go_wp2
 go_loopw [5] (fun iv wr=>∃ k:Nat,iv=.int .i64 (k:Int)∧k≤2∧Hid (wr.heap[w.heap.size]?=some (.cells #[.string la,.string lb,.string lc,.string le,.bool lh,.bool lk,.int .i64 (lR:Int),.int .i64 (lO:Int),.int .i64 (lM:Int),.bool lD] 33 (0,0)))∧Hid (wr.heap[w.heap.size + 1]?=some (.cells #[.int .i64 fn,.int .i64 ka,.string ta,.bool ra,.int .i64 kb,.string tb,.bool rb] 67 (0,0)))∧Hid (Below w.heap.size w wr)∧Hid (1≤k→NP d.f0 ⟨ka,ta,ra⟩)∧Hid (2≤k→NP d.f1 ⟨kb,tb,rb⟩)) (fun i _=>2 - (intOf i).toNat)
 case atStart=>exact ⟨0,rfl,by omega,hI (qbf w _ _).1,hI (qbf w _ _).2,hI (qab (bel1 w _) _),hI (fun h=>absurd h (by omega)),hI (fun h=>absurd h (by omega))⟩
 case round =>
  obtain ⟨k,rfl,hk,HX,HF,HB,HN0,HN1⟩:=hrel
  obtain rfl | rfl | rfl:k=0∨k=1∨k=2:=by omega
  ·have HOA:=hI (fun (W:World)=>qkn ⟨ka,ta,ra⟩ W)
   have HOB:=hI (fun (W:World)=>qkn ⟨kb,tb,rb⟩ W)
   have HL1:=hI (fun (W:World)=>HLF.out 0 ⟨ka,ta,ra⟩ W (by decide) HTa.out)
   have HL2:=hI (fun (W:World)=>HLF.out 0 ⟨ka,⟨#[]⟩,ra⟩ W (by decide) (Nat.zero_le _))
   have HA1:=hI (fun (W:World)=>HAL.out 0 ⟨ka,ta,ra⟩ W (by decide))
   have HA2:=hI (fun (W:World)=>HAL.out 0 ⟨ka,⟨#[]⟩,ra⟩ W (by decide))
   have HNQ:Hid ((allL (qbs (d.get 0) ⟨ka,ta,ra⟩).s.data.toList).1=(allL (qbs (d.get 0) ⟨ka,⟨#[]⟩,ra⟩).s.data.toList).1→NP d.f0 ⟨ka,ta,ra⟩):=fun h=>h
   have HSZ:=hI (HSZa.out ⟨ka,⟨#[]⟩,ra⟩ 0 (by decide))
   generalize (qbs (d.get 0) ⟨ka,ta,ra⟩).s=s1 at HL1 HA1 HNQ
   generalize (qbs (d.get 0) ⟨ka,⟨#[]⟩,ra⟩).s=s2 at HL2 HA2 HNQ HSZ
   simp only [RDa,chV] at HL1 HL2 HOA HOB
   unfold AllF at HA1 HA2
   generalize allL s1.data.toList=l1 at HA1 HNQ
   generalize allL s2.data.toList=l2 at HA2 HNQ HSZ
   obtain ⟨p0,p1,p2,p3,p4,p5,p6,p7,p8,p9⟩:=qat HX.out
   obtain ⟨g0,g1,g2,g3,g4,g5,g6⟩:=qko HF.out
   go_wp2_with fail
   refine (HOA.out _).mono ?_
   rintro e w2 ⟨rfl,hb2⟩
   have HX2:=hI ((hb2.block _ (qaa HX.out)).trans HX.out)
   have HF2:=hI ((hb2.block _ (qaa HF.out)).trans HF.out)
   have HB2:=hI (qac HB.out hb2)
   clear hb2 p0 p1 p2 p3 p4 p5 p6 p7 p8 p9 g0 g1 g2 g3 g4 g5 g6
   have hz2:w.heap.size + 1 < w2.heap.size:=qaa HF2.out
   go_upto_region 7 with fail
   obtain ⟨q,hq⟩:∃ q,q=w2.heap.size:=⟨_,rfl⟩
   rw [←hq]
   generalize hw5:w2.alloc (.cells #[.int .i64 ka,.string ta,.bool ra] 115)=w5
   have hb5:Below w2.heap.size w2 w5:=by rw [←hw5];exact bel1 w2 _
   have HQ5:Hid (w5.heap[q]?=some (.cells #[.int .i64 ka,.string ta,.bool ra] 115 (0,0))):=by rw [←hw5,hq];exact qao w2 _
   have HX5:=hI ((hb5.block _ (qaa HX2.out)).trans HX2.out)
   have HF5:=hI ((hb5.block _ (qaa HF2.out)).trans HF2.out)
   have HB5:=hI (qac HB2.out hb5)
   have hqg:w.heap.size + 1 < q:=by omega
   clear hw5 hb5 hq HX2 HF2 HB2 hz2
   have hlq:q < w5.heap.size:=qaa HQ5.out
   have hlx:w.heap.size < w5.heap.size:=qaa HX5.out
   obtain ⟨p0,p1,p2,p3,p4,p5,p6,p7,p8,p9⟩:=qat HX5.out
   obtain ⟨y0,y1,y2⟩:=qgl HQ5.out
   have a0:=fun p:ExtW w5=>p.cell (a:=⟨w.heap.size,0,none⟩) hlx p0
   have a1:=fun p:ExtW w5=>p.cell (a:=⟨w.heap.size,2,none⟩) hlx p2
   have a2:=fun p:ExtW w5=>p.cell (a:=⟨w.heap.size,4,none⟩) hlx p4
   have a3:=fun p:ExtW w5=>p.cell (a:=⟨q,0,none⟩) hlq y0
   have a4:=fun p:ExtW w5=>p.cell (a:=⟨q,1,none⟩) hlq y1
   have a5:=fun p:ExtW w5=>p.cell (a:=⟨q,2,none⟩) hlq y2
   refine qaj (by kernel_rfl) (by kernel_rfl) ?_
   repeat (first | go_big_quiet_step ((go_at_call 54;exact Calls.ext_of (HL1.out _))) | quiet_step ((go_at_call 54;exact Calls.ext_of (HL1.out _))))
   refine wpQuiet_nil ?_
   intro wq hw'
   obtain ⟨⟨W,hbW⟩,hw''⟩:=hw'
   have hw3:wq=W:=hw''
   subst hw3
   have HX6:=hI ((hbW.block _ hlx).trans HX5.out)
   have HF6:=hI ((hbW.block _ (qaa HF5.out)).trans HF5.out)
   have HQ6:=hI ((hbW.block _ hlq).trans HQ5.out)
   have HB6:=hI (qac HB5.out hbW)
   clear hbW hw'' a0 a1 a2 a3 a4 a5 p0 p1 p2 p3 p4 p5 p6 p7 p8 p9 y0 y1 y2 hlq hlx HX5 HF5 HQ5 HB5
   obtain ⟨y0,y1,y2⟩:=qgl HQ6.out
   have z1:=Lib.frozen_of_heap HQ6.out 1
   go_upto_region 9 with fail
   generalize hw7:wq.setCell ⟨q,1,none⟩ (.string ⟨#[]⟩)=w7
   have HBU:Hid (But q wq w7):=by rw [←hw7];exact (But.refl _ _).set _ _
   have HQ7:Hid (w7.heap[q]?=some (.cells #[.int .i64 ka,.string ⟨#[]⟩,.bool ra] 115 (0,0))):=by show _=_;rw [←hw7,qae HQ6.out 1 _];simp only [List.setIfInBounds_toArray,List.set_cons_succ,List.set_cons_zero]
   have HX7:=hI (HBU.out.heap HX6.out (by omega))
   have HF7:=hI (HBU.out.heap HF6.out (by omega))
   have HB7:Hid (Below w.heap.size w w7):=HBU.out.below HB6.out (by omega) HB6.out.size
   clear hw7 HBU HX6 HF6 HQ6 HB6 y0 y1 y2 z1
   go_wp2_with fail
   refine (HA1.out _).mono ?_
   rintro e w8 ⟨v8,rfl,hrow8,hb8⟩
   obtain ⟨R1,cr1,rfl⟩:=qhh hrow8
   have HQ8:=hI ((hb8.block _ (qaa HQ7.out)).trans HQ7.out)
   have HX8:=hI ((hb8.block _ (qaa HX7.out)).trans HX7.out)
   have HF8:=hI ((hb8.block _ (qaa HF7.out)).trans HF7.out)
   have HB8:=hI (qac HB7.out hb8)
   have HR8:=hI hrow8
   clear hb8 hrow8 HQ7 HX7 HF7 HB7 HA1
   have KS:Hid (∀ W,Below w8.heap.size w8 W→W.cell? ⟨w.heap.size,0,none⟩=some (.string la)∧W.cell? ⟨w.heap.size,2,none⟩=some (.string lc)∧W.cell? ⟨w.heap.size,4,none⟩=some (.bool lh)∧W.cell? ⟨q,0,none⟩=some (.int .i64 ka)∧W.cell? ⟨q,1,none⟩=some (.string ⟨#[]⟩)∧W.cell? ⟨q,2,none⟩=some (.bool ra)):=fun W hW=>by
    obtain ⟨p0,p1,p2,p3,p4,p5,p6,p7,p8,p9⟩:=qat ((hW.block _ (qaa HX8.out)).trans HX8.out)
    obtain ⟨y0,y1,y2⟩:=qgl ((hW.block _ (qaa HQ8.out)).trans HQ8.out)
    exact ⟨p0,p2,p4,y0,y1,y2⟩
   go_wp2_with fail
   refine qfv (S:=fun W=>W.cell? ⟨w.heap.size,0,none⟩=some (.string la)∧W.cell? ⟨w.heap.size,2,none⟩=some (.string lc)∧W.cell? ⟨w.heap.size,4,none⟩=some (.bool lh)∧W.cell? ⟨q,0,none⟩=some (.int .i64 ka)∧W.cell? ⟨q,1,none⟩=some (.string ⟨#[]⟩)∧W.cell? ⟨q,2,none⟩=some (.bool ra)) (by kernel_rfl) ?_
   have hb8d:Below w8.heap.size w8 w8.drew:=(Below.refl _ _).drew
   refine qbg (some 45) (i:=0) (v:=?_) rfl rfl (by kernel_rfl) (by kernel_rfl) (by kernel_rfl) (by kernel_rfl) (fun _ _ _ h=>h) (Or.inl ⟨by rfl,?_⟩) (KS.out _ hb8d) ?_
   rotate_left
   ·(intro W hW;obtain ⟨s0,s1,s2,s3,s4,s5⟩:=hW;go_simp;with_reducible rfl)
   simp only [Act.put,List.setIfInBounds_toArray,List.set_cons_zero,List.set_cons_succ]
   refine qbg (some 46) (i:=1) (v:=?_) rfl rfl (by kernel_rfl) (by kernel_rfl) (by kernel_rfl) (by kernel_rfl) (fun _ _ _ h=>h) (Or.inl ⟨by rfl,?_⟩) (KS.out _ hb8d) ?_
   rotate_left
   ·(intro W hW;obtain ⟨s0,s1,s2,s3,s4,s5⟩:=hW;go_simp;with_reducible rfl)
   simp only [Act.put,List.setIfInBounds_toArray,List.set_cons_zero,List.set_cons_succ]
   refine qbg (some 47) (i:=2) (v:=?_) rfl rfl (by kernel_rfl) (by kernel_rfl) (by kernel_rfl) (by kernel_rfl) (fun _ _ _ h=>h) (Or.inl ⟨by rfl,?_⟩) (KS.out _ hb8d) ?_
   rotate_left
   ·(intro W hW;obtain ⟨s0,s1,s2,s3,s4,s5⟩:=hW;go_simp;with_reducible rfl)
   simp only [Act.put,List.setIfInBounds_toArray,List.set_cons_zero,List.set_cons_succ]
   refine qbg (some 48) (i:=3) (v:=?_) rfl rfl (by kernel_rfl) (by kernel_rfl) (by kernel_rfl) (by kernel_rfl) (fun _ _ _ h=>h) (Or.inl ⟨by rfl,?_⟩) (KS.out _ hb8d) ?_
   rotate_left
   ·(intro W hW;obtain ⟨s0,s1,s2,s3,s4,s5⟩:=hW;go_simp;with_reducible rfl)
   simp only [Act.put,List.setIfInBounds_toArray,List.set_cons_zero,List.set_cons_succ]
   refine qbg (some 49) (i:=4) (v:=?_) rfl rfl (by kernel_rfl) (by kernel_rfl) (by kernel_rfl) (by kernel_rfl) (fun _ _ _ h=>h) (Or.inl ⟨by rfl,?_⟩) (KS.out _ hb8d) ?_
   rotate_left
   ·(intro W hW;obtain ⟨s0,s1,s2,s3,s4,s5⟩:=hW;go_simp;with_reducible rfl)
   simp only [Act.put,List.setIfInBounds_toArray,List.set_cons_zero,List.set_cons_succ]
   refine qbg (some 50) (i:=5) (v:=?_) rfl rfl (by kernel_rfl) (by kernel_rfl) (by kernel_rfl) (by kernel_rfl) (fun _ _ _ h=>h) (Or.inl ⟨by rfl,?_⟩) (KS.out _ hb8d) ?_
   rotate_left
   ·(intro W hW;obtain ⟨s0,s1,s2,s3,s4,s5⟩:=hW;go_simp;with_reducible rfl)
   simp only [Act.put,List.setIfInBounds_toArray,List.set_cons_zero,List.set_cons_succ]
   refine qbg (some 51) (i:=6) (v:=?_) rfl rfl (by kernel_rfl) (by kernel_rfl) (by kernel_rfl) (by kernel_rfl) (fun _ _ _ h=>h) (Or.inl ⟨by rfl,?_⟩) (KS.out _ hb8d) ?_
   rotate_left
   ·(intro W hW;obtain ⟨s0,s1,s2,s3,s4,s5⟩:=hW;go_simp;with_reducible rfl)
   simp only [Act.put,List.setIfInBounds_toArray,List.set_cons_zero,List.set_cons_succ]
   refine qbg (some 52) (i:=7) (v:=?_) rfl rfl (by kernel_rfl) (by kernel_rfl) (by kernel_rfl) (by kernel_rfl) (fun _ _ _ h=>h) (Or.inl ⟨by rfl,?_⟩) (KS.out _ hb8d) ?_
   rotate_left
   ·(intro W hW;obtain ⟨s0,s1,s2,s3,s4,s5⟩:=hW;go_simp;with_reducible rfl)
   simp only [Act.put,List.setIfInBounds_toArray,List.set_cons_zero,List.set_cons_succ]
   refine qbg (some 53) (i:=8) (v:=?_) rfl rfl (by kernel_rfl) (by kernel_rfl) (by kernel_rfl) (by kernel_rfl) (fun _ _ _ h=>h) (Or.inl ⟨by rfl,?_⟩) (KS.out _ hb8d) ?_
   rotate_left
   ·(intro W hW;obtain ⟨s0,s1,s2,s3,s4,s5⟩:=hW;go_simp;with_reducible rfl)
   simp only [Act.put,List.setIfInBounds_toArray,List.set_cons_zero,List.set_cons_succ]
   refine qbg (some 54) (i:=9) (v:=?_) rfl rfl (by kernel_rfl) (by kernel_rfl) (by kernel_rfl) (by kernel_rfl) (fun _ _ _ h=>h) (Or.inl ⟨by rfl,?_⟩) (KS.out _ hb8d) ?_
   rotate_left
   ·(intro W hW;obtain ⟨s0,s1,s2,s3,s4,s5⟩:=hW;go_simp;with_reducible rfl)
   simp only [Act.put,List.setIfInBounds_toArray,List.set_cons_zero,List.set_cons_succ]
   refine qbg (some 55) (i:=10) (v:=?_) rfl rfl (by kernel_rfl) (by kernel_rfl) (by kernel_rfl) (by kernel_rfl) (fun _ _ _ h=>h) (Or.inl ⟨by rfl,?_⟩) (KS.out _ hb8d) ?_
   rotate_left
   ·(intro W hW;obtain ⟨s0,s1,s2,s3,s4,s5⟩:=hW;go_simp;with_reducible rfl)
   simp only [Act.put,List.setIfInBounds_toArray,List.set_cons_zero,List.set_cons_succ]
   refine qbg (some 56) (i:=11) (v:=?_) rfl rfl (by kernel_rfl) (by kernel_rfl) (by kernel_rfl) (by kernel_rfl) (fun _ _ _ h=>h) (Or.inl ⟨by rfl,?_⟩) (KS.out _ hb8d) ?_
   rotate_left
   ·(intro W hW;obtain ⟨s0,s1,s2,s3,s4,s5⟩:=hW;go_simp;with_reducible rfl)
   simp only [Act.put,List.setIfInBounds_toArray,List.set_cons_zero,List.set_cons_succ]
   refine qbg (some 57) (i:=12) (v:=?_) rfl rfl (by kernel_rfl) (by kernel_rfl) (by kernel_rfl) (by kernel_rfl) (fun _ _ _ h=>h) (Or.inl ⟨by rfl,?_⟩) (KS.out _ hb8d) ?_
   rotate_left
   ·(intro W hW;obtain ⟨s0,s1,s2,s3,s4,s5⟩:=hW;go_simp;with_reducible rfl)
   simp only [Act.put,List.setIfInBounds_toArray,List.set_cons_zero,List.set_cons_succ]
   refine qbr (rs:=[13]) (by kernel_rfl) (by simp) (AllReadyT.cons rfl (fun K hK=>?_) AllReadyT.nil)
   go_simp
   refine (HL2.out _).mono ?_
   rintro e w9 ⟨rfl,hb9⟩
   have HB9:=hI (qac hb8d hb9)
   clear hb9 HL2
   refine hK.out _ _ (KS.out _ HB9.out) (fun _=>?_)
   clear hK K
   refine qbr (rs:=[14]) (by kernel_rfl) (by simp) (AllReadyT.cons rfl (fun K hK=>?_) AllReadyT.nil)
   go_simp
   refine (HA2.out _).mono ?_
   rintro e w10 ⟨v10,rfl,hrow10,hb10⟩
   obtain ⟨R2,cr2,rfl⟩:=qhh hrow10
   have HB10:=hI (qac HB9.out hb10)
   have HR10:=hI hrow10
   clear hb10 hrow10 HA2
   refine hK.out _ _ (KS.out _ HB10.out) (fun _=>?_)
   clear hK K
   refine qbg (some 44) (i:=15) (v:=?_) rfl rfl (by kernel_rfl) (by kernel_rfl) (by kernel_rfl) (by kernel_rfl) (fun _ _ _ h=>h) (Or.inl ⟨by rfl,?_⟩) (KS.out _ HB10.out) ?_
   rotate_left
   ·(intro W hW;obtain ⟨s0,s1,s2,s3,s4,s5⟩:=hW;go_simp;with_reducible rfl)
   simp only [Act.put,List.setIfInBounds_toArray,List.set_cons_zero,List.set_cons_succ]
   refine qbg (some 60) (i:=16) (v:=?_) rfl rfl (by kernel_rfl) (by kernel_rfl) (by kernel_rfl) (by kernel_rfl) (fun _ _ _ h=>h) (Or.inl ⟨by rfl,?_⟩) (KS.out _ HB10.out) ?_
   rotate_left
   ·(intro W hW;obtain ⟨s0,s1,s2,s3,s4,s5⟩:=hW;go_simp;with_reducible rfl)
   simp only [Act.put,List.setIfInBounds_toArray,List.set_cons_zero,List.set_cons_succ]
   refine qbg (some 61) (i:=17) (v:=?_) rfl rfl (by kernel_rfl) (by kernel_rfl) (by kernel_rfl) (by kernel_rfl) (fun _ _ _ h=>h) (Or.inl ⟨by rfl,?_⟩) (KS.out _ HB10.out) ?_
   rotate_left
   ·(intro W hW;obtain ⟨s0,s1,s2,s3,s4,s5⟩:=hW;go_simp;with_reducible rfl)
   simp only [Act.put,List.setIfInBounds_toArray,List.set_cons_zero,List.set_cons_succ]
   refine qbg (some 10) (i:=18) (v:=?_) rfl rfl (by kernel_rfl) (by kernel_rfl) (by kernel_rfl) (by kernel_rfl) (fun _ _ _ h=>h) (Or.inl ⟨by rfl,?_⟩) (KS.out _ HB10.out) ?_
   rotate_left
   ·(intro W hW;obtain ⟨s0,s1,s2,s3,s4,s5⟩:=hW;go_simp;with_reducible rfl)
   simp only [Act.put,List.setIfInBounds_toArray,List.set_cons_zero,List.set_cons_succ]
   refine qbg (some 11) (i:=19) (v:=?_) rfl rfl (by kernel_rfl) (by kernel_rfl) (by kernel_rfl) (by kernel_rfl) (fun _ _ _ h=>h) (Or.inl ⟨by rfl,?_⟩) (KS.out _ HB10.out) ?_
   rotate_left
   ·(intro W hW;obtain ⟨s0,s1,s2,s3,s4,s5⟩:=hW;go_simp;with_reducible rfl)
   simp only [Act.put,List.setIfInBounds_toArray,List.set_cons_zero,List.set_cons_succ]
   refine qfu (by kernel_rfl) ?_ _
   have HX10:=hI ((HB10.out.block _ (qaa HX8.out)).trans HX8.out)
   have HF10:=hI ((HB10.out.block _ (qaa HF8.out)).trans HF8.out)
   have HBW:=hI (qac HB8.out HB10.out)
   have HST:Hid (Calls Tryz.prog 56 #[.slice R1 l1.1.toArray.size cr1,.slice R2 l2.1.toArray.size cr2] w10 fun e w'=>e=.returned (.bool (decide (l1.1.toArray=l2.1.toArray)))∧∃ n,w'=w10.drewN n) :=
    qnr R1 R2 cr1 cr2 l1.1.toArray l2.1.toArray _ _ w10 (qkp (qas HR8.out HB10.out)) (qkp HR10.out) HSZ.out
   clear HR8 HR10 KS HB9 HB10 HX8 HF8 HQ8 HB8 hb8d
   by_cases hsm:l1.1.toArray=l2.1.toArray
   ·rw [decide_eq_true hsm] at HST
    have HNP2:=hI (HNQ.out (by simpa using congrArg Array.toList hsm))
    clear hsm HNQ
    go_wp2_with (go_at_call 56;refine HST.out.mono ?_;rintro e w11 ⟨rfl,n11,rfl⟩)
    go_roundw
    case rel=>exact ⟨1,by go_num,by omega,HX10,HF10,hI (qan HBW.out n11),hI (fun _=>HNP2.out),hI (fun h=>absurd h (by omega))⟩
    case measure=>simp [intOf]
   ·rw [decide_eq_false hsm] at HST
    clear hsm HNQ
    go_wp2_with (go_at_call 56;refine HST.out.mono ?_;rintro e w11 ⟨rfl,n11,rfl⟩)
    go_ret
    exact ⟨true,rfl,(fun h=>by cases h),qan HBW.out n11⟩
  ·have HOA:=hI (fun (W:World)=>qkn ⟨ka,ta,ra⟩ W)
   have HOB:=hI (fun (W:World)=>qkn ⟨kb,tb,rb⟩ W)
   have HL1:=hI (fun (W:World)=>HLF.out 1 ⟨kb,tb,rb⟩ W (by decide) HTb.out)
   have HL2:=hI (fun (W:World)=>HLF.out 1 ⟨kb,⟨#[]⟩,rb⟩ W (by decide) (Nat.zero_le _))
   have HA1:=hI (fun (W:World)=>HAL.out 1 ⟨kb,tb,rb⟩ W (by decide))
   have HA2:=hI (fun (W:World)=>HAL.out 1 ⟨kb,⟨#[]⟩,rb⟩ W (by decide))
   have HNQ:Hid ((allL (qbs (d.get 1) ⟨kb,tb,rb⟩).s.data.toList).1=(allL (qbs (d.get 1) ⟨kb,⟨#[]⟩,rb⟩).s.data.toList).1→NP d.f1 ⟨kb,tb,rb⟩):=fun h=>h
   have HSZ:=hI (HSZa.out ⟨kb,⟨#[]⟩,rb⟩ 1 (by decide))
   generalize (qbs (d.get 1) ⟨kb,tb,rb⟩).s=s1 at HL1 HA1 HNQ
   generalize (qbs (d.get 1) ⟨kb,⟨#[]⟩,rb⟩).s=s2 at HL2 HA2 HNQ HSZ
   simp only [RDa,chV] at HL1 HL2 HOA HOB
   unfold AllF at HA1 HA2
   generalize allL s1.data.toList=l1 at HA1 HNQ
   generalize allL s2.data.toList=l2 at HA2 HNQ HSZ
   obtain ⟨p0,p1,p2,p3,p4,p5,p6,p7,p8,p9⟩:=qat HX.out
   obtain ⟨g0,g1,g2,g3,g4,g5,g6⟩:=qko HF.out
   go_wp2_with fail
   refine (HOA.out _).mono ?_
   rintro e w2 ⟨rfl,hb2⟩
   have HX2:=hI ((hb2.block _ (qaa HX.out)).trans HX.out)
   have HF2:=hI ((hb2.block _ (qaa HF.out)).trans HF.out)
   have HB2:=hI (qac HB.out hb2)
   clear hb2 p0 p1 p2 p3 p4 p5 p6 p7 p8 p9 g0 g1 g2 g3 g4 g5 g6
   have hz2:w.heap.size + 1 < w2.heap.size:=qaa HF2.out
   have hz3:w.heap.size < w2.heap.size:=by omega
   obtain ⟨g0,g1,g2,g3,g4,g5,g6⟩:=qko HF2.out
   go_wp2_with fail
   obtain ⟨q,hq⟩:∃ q,q=w2.heap.size:=⟨_,rfl⟩
   rw [←hq]
   have HQ2:Hid ((w2.alloc (.cells #[.int .i64 ka,.string ta,.bool ra] 115)).heap[q]?=some (.cells #[.int .i64 ka,.string ta,.bool ra] 115 (0,0))):=by show _=_;rw [hq];exact qao w2 _
   have hb3a:Below w2.heap.size w2 (w2.alloc (.cells #[.int .i64 ka,.string ta,.bool ra] 115)):=bel1 w2 _
   have hqg:w.heap.size + 1 < q:=by omega
   clear hq
   refine (HOB.out _).mono ?_
   rintro e w3 ⟨rfl,hb3⟩
   have HQ3:=hI ((hb3.block _ (qaa HQ2.out)).trans HQ2.out)
   have hb3c:=qac hb3a hb3
   have HX3:=hI ((hb3c.block _ (qaa HX2.out)).trans HX2.out)
   have HF3:=hI ((hb3c.block _ (qaa HF2.out)).trans HF2.out)
   have HB3:=hI (qac HB2.out hb3c)
   clear hb3 hb3a hb3c HQ2 HX2 HF2 HB2 hz2 hz3 g0 g1 g2 g3 g4 g5 g6
   obtain ⟨y0,y1,y2⟩:=qgl HQ3.out
   have z0:=Lib.frozen_of_heap HQ3.out 0
   have z1:=Lib.frozen_of_heap HQ3.out 1
   have z2:=Lib.frozen_of_heap HQ3.out 2
   go_upto_region 7 with fail
   generalize hw5:((w3.setCell ⟨q,0,none⟩ (.int .i64 kb)).setCell ⟨q,1,none⟩ (.string tb)).setCell ⟨q,2,none⟩ (.bool rb)=w5
   have HBU:Hid (But q w3 w5):=by rw [←hw5];exact (((But.refl _ _).set _ _).set _ _).set _ _
   have HQ5:Hid (w5.heap[q]?=some (.cells #[.int .i64 kb,.string tb,.bool rb] 115 (0,0))):=by show _=_;rw [←hw5,qae (qae (qae HQ3.out 0 _) 1 _) 2 _];simp only [List.setIfInBounds_toArray,List.set_cons_succ,List.set_cons_zero]
   have HX5:=hI (HBU.out.heap HX3.out (by omega))
   have HF5:=hI (HBU.out.heap HF3.out (by omega))
   have HB5:Hid (Below w.heap.size w w5):=HBU.out.below HB3.out (by omega) HB3.out.size
   clear hw5 HBU HQ3 HX3 HF3 HB3 y0 y1 y2 z0 z1 z2
   have hlq:q < w5.heap.size:=qaa HQ5.out
   have hlx:w.heap.size < w5.heap.size:=qaa HX5.out
   obtain ⟨p0,p1,p2,p3,p4,p5,p6,p7,p8,p9⟩:=qat HX5.out
   obtain ⟨y0,y1,y2⟩:=qgl HQ5.out
   have a0:=fun p:ExtW w5=>p.cell (a:=⟨w.heap.size,1,none⟩) hlx p1
   have a1:=fun p:ExtW w5=>p.cell (a:=⟨w.heap.size,3,none⟩) hlx p3
   have a2:=fun p:ExtW w5=>p.cell (a:=⟨w.heap.size,5,none⟩) hlx p5
   have a3:=fun p:ExtW w5=>p.cell (a:=⟨q,0,none⟩) hlq y0
   have a4:=fun p:ExtW w5=>p.cell (a:=⟨q,1,none⟩) hlq y1
   have a5:=fun p:ExtW w5=>p.cell (a:=⟨q,2,none⟩) hlq y2
   refine qaj (by kernel_rfl) (by kernel_rfl) ?_
   repeat (first | go_big_quiet_step ((go_at_call 54;exact Calls.ext_of (HL1.out _))) | quiet_step ((go_at_call 54;exact Calls.ext_of (HL1.out _))))
   refine wpQuiet_nil ?_
   intro wq hw'
   obtain ⟨⟨W,hbW⟩,hw''⟩:=hw'
   have hw3:wq=W:=hw''
   subst hw3
   have HX6:=hI ((hbW.block _ hlx).trans HX5.out)
   have HF6:=hI ((hbW.block _ (qaa HF5.out)).trans HF5.out)
   have HQ6:=hI ((hbW.block _ hlq).trans HQ5.out)
   have HB6:=hI (qac HB5.out hbW)
   clear hbW hw'' a0 a1 a2 a3 a4 a5 p0 p1 p2 p3 p4 p5 p6 p7 p8 p9 y0 y1 y2 hlq hlx HX5 HF5 HQ5 HB5
   obtain ⟨y0,y1,y2⟩:=qgl HQ6.out
   have z1:=Lib.frozen_of_heap HQ6.out 1
   go_upto_region 9 with fail
   generalize hw7:wq.setCell ⟨q,1,none⟩ (.string ⟨#[]⟩)=w7
   have HBU:Hid (But q wq w7):=by rw [←hw7];exact (But.refl _ _).set _ _
   have HQ7:Hid (w7.heap[q]?=some (.cells #[.int .i64 kb,.string ⟨#[]⟩,.bool rb] 115 (0,0))):=by show _=_;rw [←hw7,qae HQ6.out 1 _];simp only [List.setIfInBounds_toArray,List.set_cons_succ,List.set_cons_zero]
   have HX7:=hI (HBU.out.heap HX6.out (by omega))
   have HF7:=hI (HBU.out.heap HF6.out (by omega))
   have HB7:Hid (Below w.heap.size w w7):=HBU.out.below HB6.out (by omega) HB6.out.size
   clear hw7 HBU HX6 HF6 HQ6 HB6 y0 y1 y2 z1
   go_wp2_with fail
   refine (HA1.out _).mono ?_
   rintro e w8 ⟨v8,rfl,hrow8,hb8⟩
   obtain ⟨R1,cr1,rfl⟩:=qhh hrow8
   have HQ8:=hI ((hb8.block _ (qaa HQ7.out)).trans HQ7.out)
   have HX8:=hI ((hb8.block _ (qaa HX7.out)).trans HX7.out)
   have HF8:=hI ((hb8.block _ (qaa HF7.out)).trans HF7.out)
   have HB8:=hI (qac HB7.out hb8)
   have HR8:=hI hrow8
   clear hb8 hrow8 HQ7 HX7 HF7 HB7 HA1
   have KS:Hid (∀ W,Below w8.heap.size w8 W→W.cell? ⟨w.heap.size,1,none⟩=some (.string lb)∧W.cell? ⟨w.heap.size,3,none⟩=some (.string le)∧W.cell? ⟨w.heap.size,5,none⟩=some (.bool lk)∧W.cell? ⟨q,0,none⟩=some (.int .i64 kb)∧W.cell? ⟨q,1,none⟩=some (.string ⟨#[]⟩)∧W.cell? ⟨q,2,none⟩=some (.bool rb)):=fun W hW=>by
    obtain ⟨p0,p1,p2,p3,p4,p5,p6,p7,p8,p9⟩:=qat ((hW.block _ (qaa HX8.out)).trans HX8.out)
    obtain ⟨y0,y1,y2⟩:=qgl ((hW.block _ (qaa HQ8.out)).trans HQ8.out)
    exact ⟨p1,p3,p5,y0,y1,y2⟩
   go_wp2_with fail
   refine qfv (S:=fun W=>W.cell? ⟨w.heap.size,1,none⟩=some (.string lb)∧W.cell? ⟨w.heap.size,3,none⟩=some (.string le)∧W.cell? ⟨w.heap.size,5,none⟩=some (.bool lk)∧W.cell? ⟨q,0,none⟩=some (.int .i64 kb)∧W.cell? ⟨q,1,none⟩=some (.string ⟨#[]⟩)∧W.cell? ⟨q,2,none⟩=some (.bool rb)) (by kernel_rfl) ?_
   have hb8d:Below w8.heap.size w8 w8.drew:=(Below.refl _ _).drew
   refine qbg (some 45) (i:=0) (v:=?_) rfl rfl (by kernel_rfl) (by kernel_rfl) (by kernel_rfl) (by kernel_rfl) (fun _ _ _ h=>h) (Or.inl ⟨by rfl,?_⟩) (KS.out _ hb8d) ?_
   rotate_left
   ·(intro W hW;obtain ⟨s0,s1,s2,s3,s4,s5⟩:=hW;go_simp;with_reducible rfl)
   simp only [Act.put,List.setIfInBounds_toArray,List.set_cons_zero,List.set_cons_succ]
   refine qbg (some 46) (i:=1) (v:=?_) rfl rfl (by kernel_rfl) (by kernel_rfl) (by kernel_rfl) (by kernel_rfl) (fun _ _ _ h=>h) (Or.inl ⟨by rfl,?_⟩) (KS.out _ hb8d) ?_
   rotate_left
   ·(intro W hW;obtain ⟨s0,s1,s2,s3,s4,s5⟩:=hW;go_simp;with_reducible rfl)
   simp only [Act.put,List.setIfInBounds_toArray,List.set_cons_zero,List.set_cons_succ]
   refine qbg (some 47) (i:=2) (v:=?_) rfl rfl (by kernel_rfl) (by kernel_rfl) (by kernel_rfl) (by kernel_rfl) (fun _ _ _ h=>h) (Or.inl ⟨by rfl,?_⟩) (KS.out _ hb8d) ?_
   rotate_left
   ·(intro W hW;obtain ⟨s0,s1,s2,s3,s4,s5⟩:=hW;go_simp;with_reducible rfl)
   simp only [Act.put,List.setIfInBounds_toArray,List.set_cons_zero,List.set_cons_succ]
   refine qbg (some 48) (i:=3) (v:=?_) rfl rfl (by kernel_rfl) (by kernel_rfl) (by kernel_rfl) (by kernel_rfl) (fun _ _ _ h=>h) (Or.inl ⟨by rfl,?_⟩) (KS.out _ hb8d) ?_
   rotate_left
   ·(intro W hW;obtain ⟨s0,s1,s2,s3,s4,s5⟩:=hW;go_simp;with_reducible rfl)
   simp only [Act.put,List.setIfInBounds_toArray,List.set_cons_zero,List.set_cons_succ]
   refine qbg (some 49) (i:=4) (v:=?_) rfl rfl (by kernel_rfl) (by kernel_rfl) (by kernel_rfl) (by kernel_rfl) (fun _ _ _ h=>h) (Or.inl ⟨by rfl,?_⟩) (KS.out _ hb8d) ?_
   rotate_left
   ·(intro W hW;obtain ⟨s0,s1,s2,s3,s4,s5⟩:=hW;go_simp;with_reducible rfl)
   simp only [Act.put,List.setIfInBounds_toArray,List.set_cons_zero,List.set_cons_succ]
   refine qbg (some 50) (i:=5) (v:=?_) rfl rfl (by kernel_rfl) (by kernel_rfl) (by kernel_rfl) (by kernel_rfl) (fun _ _ _ h=>h) (Or.inl ⟨by rfl,?_⟩) (KS.out _ hb8d) ?_
   rotate_left
   ·(intro W hW;obtain ⟨s0,s1,s2,s3,s4,s5⟩:=hW;go_simp;with_reducible rfl)
   simp only [Act.put,List.setIfInBounds_toArray,List.set_cons_zero,List.set_cons_succ]
   refine qbg (some 51) (i:=6) (v:=?_) rfl rfl (by kernel_rfl) (by kernel_rfl) (by kernel_rfl) (by kernel_rfl) (fun _ _ _ h=>h) (Or.inl ⟨by rfl,?_⟩) (KS.out _ hb8d) ?_
   rotate_left
   ·(intro W hW;obtain ⟨s0,s1,s2,s3,s4,s5⟩:=hW;go_simp;with_reducible rfl)
   simp only [Act.put,List.setIfInBounds_toArray,List.set_cons_zero,List.set_cons_succ]
   refine qbg (some 52) (i:=7) (v:=?_) rfl rfl (by kernel_rfl) (by kernel_rfl) (by kernel_rfl) (by kernel_rfl) (fun _ _ _ h=>h) (Or.inl ⟨by rfl,?_⟩) (KS.out _ hb8d) ?_
   rotate_left
   ·(intro W hW;obtain ⟨s0,s1,s2,s3,s4,s5⟩:=hW;go_simp;with_reducible rfl)
   simp only [Act.put,List.setIfInBounds_toArray,List.set_cons_zero,List.set_cons_succ]
   refine qbg (some 53) (i:=8) (v:=?_) rfl rfl (by kernel_rfl) (by kernel_rfl) (by kernel_rfl) (by kernel_rfl) (fun _ _ _ h=>h) (Or.inl ⟨by rfl,?_⟩) (KS.out _ hb8d) ?_
   rotate_left
   ·(intro W hW;obtain ⟨s0,s1,s2,s3,s4,s5⟩:=hW;go_simp;with_reducible rfl)
   simp only [Act.put,List.setIfInBounds_toArray,List.set_cons_zero,List.set_cons_succ]
   refine qbg (some 54) (i:=9) (v:=?_) rfl rfl (by kernel_rfl) (by kernel_rfl) (by kernel_rfl) (by kernel_rfl) (fun _ _ _ h=>h) (Or.inl ⟨by rfl,?_⟩) (KS.out _ hb8d) ?_
   rotate_left
   ·(intro W hW;obtain ⟨s0,s1,s2,s3,s4,s5⟩:=hW;go_simp;with_reducible rfl)
   simp only [Act.put,List.setIfInBounds_toArray,List.set_cons_zero,List.set_cons_succ]
   refine qbg (some 55) (i:=10) (v:=?_) rfl rfl (by kernel_rfl) (by kernel_rfl) (by kernel_rfl) (by kernel_rfl) (fun _ _ _ h=>h) (Or.inl ⟨by rfl,?_⟩) (KS.out _ hb8d) ?_
   rotate_left
   ·(intro W hW;obtain ⟨s0,s1,s2,s3,s4,s5⟩:=hW;go_simp;with_reducible rfl)
   simp only [Act.put,List.setIfInBounds_toArray,List.set_cons_zero,List.set_cons_succ]
   refine qbg (some 56) (i:=11) (v:=?_) rfl rfl (by kernel_rfl) (by kernel_rfl) (by kernel_rfl) (by kernel_rfl) (fun _ _ _ h=>h) (Or.inl ⟨by rfl,?_⟩) (KS.out _ hb8d) ?_
   rotate_left
   ·(intro W hW;obtain ⟨s0,s1,s2,s3,s4,s5⟩:=hW;go_simp;with_reducible rfl)
   simp only [Act.put,List.setIfInBounds_toArray,List.set_cons_zero,List.set_cons_succ]
   refine qbg (some 57) (i:=12) (v:=?_) rfl rfl (by kernel_rfl) (by kernel_rfl) (by kernel_rfl) (by kernel_rfl) (fun _ _ _ h=>h) (Or.inl ⟨by rfl,?_⟩) (KS.out _ hb8d) ?_
   rotate_left
   ·(intro W hW;obtain ⟨s0,s1,s2,s3,s4,s5⟩:=hW;go_simp;with_reducible rfl)
   simp only [Act.put,List.setIfInBounds_toArray,List.set_cons_zero,List.set_cons_succ]
   refine qbr (rs:=[13]) (by kernel_rfl) (by simp) (AllReadyT.cons rfl (fun K hK=>?_) AllReadyT.nil)
   go_simp
   refine (HL2.out _).mono ?_
   rintro e w9 ⟨rfl,hb9⟩
   have HB9:=hI (qac hb8d hb9)
   clear hb9 HL2
   refine hK.out _ _ (KS.out _ HB9.out) (fun _=>?_)
   clear hK K
   refine qbr (rs:=[14]) (by kernel_rfl) (by simp) (AllReadyT.cons rfl (fun K hK=>?_) AllReadyT.nil)
   go_simp
   refine (HA2.out _).mono ?_
   rintro e w10 ⟨v10,rfl,hrow10,hb10⟩
   obtain ⟨R2,cr2,rfl⟩:=qhh hrow10
   have HB10:=hI (qac HB9.out hb10)
   have HR10:=hI hrow10
   clear hb10 hrow10 HA2
   refine hK.out _ _ (KS.out _ HB10.out) (fun _=>?_)
   clear hK K
   refine qbg (some 44) (i:=15) (v:=?_) rfl rfl (by kernel_rfl) (by kernel_rfl) (by kernel_rfl) (by kernel_rfl) (fun _ _ _ h=>h) (Or.inl ⟨by rfl,?_⟩) (KS.out _ HB10.out) ?_
   rotate_left
   ·(intro W hW;obtain ⟨s0,s1,s2,s3,s4,s5⟩:=hW;go_simp;with_reducible rfl)
   simp only [Act.put,List.setIfInBounds_toArray,List.set_cons_zero,List.set_cons_succ]
   refine qbg (some 60) (i:=16) (v:=?_) rfl rfl (by kernel_rfl) (by kernel_rfl) (by kernel_rfl) (by kernel_rfl) (fun _ _ _ h=>h) (Or.inl ⟨by rfl,?_⟩) (KS.out _ HB10.out) ?_
   rotate_left
   ·(intro W hW;obtain ⟨s0,s1,s2,s3,s4,s5⟩:=hW;go_simp;with_reducible rfl)
   simp only [Act.put,List.setIfInBounds_toArray,List.set_cons_zero,List.set_cons_succ]
   refine qbg (some 61) (i:=17) (v:=?_) rfl rfl (by kernel_rfl) (by kernel_rfl) (by kernel_rfl) (by kernel_rfl) (fun _ _ _ h=>h) (Or.inl ⟨by rfl,?_⟩) (KS.out _ HB10.out) ?_
   rotate_left
   ·(intro W hW;obtain ⟨s0,s1,s2,s3,s4,s5⟩:=hW;go_simp;with_reducible rfl)
   simp only [Act.put,List.setIfInBounds_toArray,List.set_cons_zero,List.set_cons_succ]
   refine qbg (some 10) (i:=18) (v:=?_) rfl rfl (by kernel_rfl) (by kernel_rfl) (by kernel_rfl) (by kernel_rfl) (fun _ _ _ h=>h) (Or.inl ⟨by rfl,?_⟩) (KS.out _ HB10.out) ?_
   rotate_left
   ·(intro W hW;obtain ⟨s0,s1,s2,s3,s4,s5⟩:=hW;go_simp;with_reducible rfl)
   simp only [Act.put,List.setIfInBounds_toArray,List.set_cons_zero,List.set_cons_succ]
   refine qbg (some 11) (i:=19) (v:=?_) rfl rfl (by kernel_rfl) (by kernel_rfl) (by kernel_rfl) (by kernel_rfl) (fun _ _ _ h=>h) (Or.inl ⟨by rfl,?_⟩) (KS.out _ HB10.out) ?_
   rotate_left
   ·(intro W hW;obtain ⟨s0,s1,s2,s3,s4,s5⟩:=hW;go_simp;with_reducible rfl)
   simp only [Act.put,List.setIfInBounds_toArray,List.set_cons_zero,List.set_cons_succ]
   refine qfu (by kernel_rfl) ?_ _
   have HX10:=hI ((HB10.out.block _ (qaa HX8.out)).trans HX8.out)
   have HF10:=hI ((HB10.out.block _ (qaa HF8.out)).trans HF8.out)
   have HBW:=hI (qac HB8.out HB10.out)
   have HST:Hid (Calls Tryz.prog 56 #[.slice R1 l1.1.toArray.size cr1,.slice R2 l2.1.toArray.size cr2] w10 fun e w'=>e=.returned (.bool (decide (l1.1.toArray=l2.1.toArray)))∧∃ n,w'=w10.drewN n) :=
    qnr R1 R2 cr1 cr2 l1.1.toArray l2.1.toArray _ _ w10 (qkp (qas HR8.out HB10.out)) (qkp HR10.out) HSZ.out
   clear HR8 HR10 KS HB9 HB10 HX8 HF8 HQ8 HB8 hb8d
   by_cases hsm:l1.1.toArray=l2.1.toArray
   ·rw [decide_eq_true hsm] at HST
    have HNP2:=hI (HNQ.out (by simpa using congrArg Array.toList hsm))
    clear hsm HNQ
    go_wp2_with (go_at_call 56;refine HST.out.mono ?_;rintro e w11 ⟨rfl,n11,rfl⟩)
    go_roundw
    case rel=>exact ⟨2,by go_num,by omega,HX10,HF10,hI (qan HBW.out n11),hI (fun _=>HN0.out (by omega)),hI (fun _=>HNP2.out)⟩
    case measure=>simp [intOf]
   ·rw [decide_eq_false hsm] at HST
    clear hsm HNQ
    go_wp2_with (go_at_call 56;refine HST.out.mono ?_;rintro e w11 ⟨rfl,n11,rfl⟩)
    go_ret
    exact ⟨true,rfl,(fun h=>by cases h),qan HBW.out n11⟩
  ·go_wp2
   go_ret
   exact ⟨false,rfl,fun _=>⟨HN0.out (by omega),HN1.out (by omega)⟩,HB.out⟩
end Go.Proofs.YtjkecckndfcbjaaGreatDoor
