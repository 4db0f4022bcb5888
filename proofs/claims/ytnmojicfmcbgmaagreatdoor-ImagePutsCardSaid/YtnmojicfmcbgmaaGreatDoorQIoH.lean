/- Texts that the law leans on. -/
import Derived.Test.YtnmojicfmcbgmaaGreatDoorQIoC
import Derived.Test.YtnmojicfmcbgmaaGreatDoorQStG
namespace Go.Proofs.YtnmojicfmcbgmaaGreatDoor
open Go.RowKit Go.Sort Go.Lib Nb
set_option maxRecDepth 100000
theorem manyR9 {α:Type} {f:IS→IS×α} {s0 s1 s2 s3 s4 s5 s6 s7 s8 s9:IS} {x0 x1 x2 x3 x4 x5 x6 x7 x8:α} (e0:f s0=(s1,x0)) (e1:f s1=(s2,x1)) (e2:f s2=(s3,x2)) (e3:f s3=(s4,x3)) (e4:f s4=(s5,x4)) (e5:f s5=(s6,x5)) (e6:f s6=(s7,x6)) (e7:f s7=(s8,x7)) (e8:f s8=(s9,x8)):qan f 9 s0=(s9,[x0,x1,x2,x3,x4,x5,x6,x7,x8]):=by
 simp only [qan,e0,e1,e2,e3,e4,e5,e6,e7,e8]
theorem dep_rd {α β:Type} {c:Cod α} {d:α→Cod β} {s:List UInt8} {s0 s1 s2:IS} {x:α} {y:β} (e0:c.rd s s0=(s1,x)) (e1:(d x).rd s s1=(s2,y)):(c.dep d).rd s s0=(s2,(x,y)):=by
 show (((d (c.rd s s0).2).rd s (c.rd s s0).1).1,((c.rd s s0).2,((d (c.rd s s0).2).rd s (c.rd s s0).1).2))=_
 rw [e0]
 show (((d x).rd s s1).1,(x,((d x).rd s s1).2))=_
 rw [e1]
def kdA:KD (Int×Int) where
 en:=qbe
 k:=2
 rd _ _:=True
 rw _ _:=False
 hk _:=rfl
 h1 _:=by intro u hu;simp [qbe] at hu;rcases hu with rfl | rfl <;> rfl
 lt _ hb:=hb.elim
 keep _ _ _:=trivial
structure RdN0 (m:Nat) (x:RW Int) (W:World):Prop where
 rd:RdI_R W.heap.size W x.A x.z
 cz:x.z.size≤x.c
 no:x.A=none→x.c=0
 fr:Fr m x.A
theorem RdN0.kf {m:Nat} {x:RW Int} {W W':World} (h:RdN0 m x W) (hk:KF m W W'):RdN0 m x W':=⟨h.rd.kf h.fr hk,h.cz,h.no,h.fr⟩
theorem RdN0.mono {m m':Nat} {x:RW Int} {W:World} (h:RdN0 m x W) (hm:m'≤m):RdN0 m' x W:=⟨h.rd,h.cz,h.no,h.fr.mono hm⟩
def AllP (n b B:Nat) (s:ByteArray) (r:IS×RepT) (w:World) (e:Ending) (w':World):Prop :=
 ∃ R:RP,e=.returned (.agg (encP R).toArray)∧(∀ W',KF w.heap.size w' W'→RdP W' R)∧(r.1.r.e=0→repM R=r.2∧NN R)∧IPost n b B s r.1 w w'
attribute [local go_sem ↓] qbc qba
attribute [local go_sem] qbt qbq
structure AJ (n b B:Nat) (s:ByteArray) (p1 p3 r:Nat) (st:IS) (w:World) (zs cs:Array Value) (q:Nat) (W:World):Prop where
 v:VRd n b B s p1 p3 st W
 p:IPost n b B s st w W
 o:W.heap[r]?=some (.cells zs 35 (0,0))
 hr:W.heap[q]?=some (.cells cs 35 (0,0))
 q1:r < q∧p1 < q∧p3 < q
set_option maxHeartbeats 40000000 in
theorem iall_any (n b B:Nat) (s:ByteArray) (st:IS) (w:World) (h:IRd n b B s st w) (hge:0 < n) (hs:s.size≤1000000) :
 Calls Tryz.prog 39 #[.pointer (some ⟨B,0,none⟩)] w fun e w'=>AllP n b B s (repC.rd s.data.toList st) w e w':=by
 rcases e0:(numC 9 (by decide)).rd s.data.toList st with ⟨st1,x0⟩
 rcases e1:nC.rd s.data.toList st1 with ⟨st2,x1⟩
 rcases e2:nC.rd s.data.toList st2 with ⟨st3,x2⟩
 rcases e3:nC.rd s.data.toList st3 with ⟨st4,x3⟩
 rcases e4:nC.rd s.data.toList st4 with ⟨st5,x4⟩
 rcases e5:nC.rd s.data.toList st5 with ⟨st6,x5⟩
 rcases e6:nC.rd s.data.toList st6 with ⟨st7,x6⟩
 rcases e7:nC.rd s.data.toList st7 with ⟨st8,x7⟩
 rcases e8:nC.rd s.data.toList st8 with ⟨st9,x8⟩
 rcases e9:nC.rd s.data.toList st9 with ⟨st10,x9⟩
 rcases e10:(enC.list 1000 (by decide)).rd s.data.toList st10 with ⟨st11,ge⟩
 rcases e11:(rowC 2 (by decide)).rd s.data.toList st11 with ⟨st12,go⟩
 rcases e12:(knC.vec x0).rd s.data.toList st12 with ⟨st13,gk⟩
 rcases e13:((rowC 1 (by decide)).vec x0).rd s.data.toList st13 with ⟨st14,gm⟩
 rcases e14:(rowC 1 (by decide)).rd s.data.toList st14 with ⟨st15,gf⟩
 rcases e15:((rowC 2 (by decide)).vec x0).rd s.data.toList st15 with ⟨st16,gd⟩
 rcases e16:(((nC.vec 4).list 1000 (by decide)).pair (seC.list 1000 (by decide))).rd s.data.toList st16 with ⟨st17,gi,gs⟩
 have EE:Hid (repC.rd s.data.toList st=(st17,((x0,[x1,x2,x3,x4,x5,x6,x7,x8,x9]),(ge,(go,(gk,(gm,(gf,(gd,(gi,gs))))))))) ) :=
  dep_rd (qcb e0 (manyR9 e1 e2 e3 e4 e5 e6 e7 e8 e9)) (qcb e10 (qcb e11 (qcb e12 (qcb e13 (qcb e14 (qcb e15 e16))))))
 have B16:Hid (st17.r.e=0→st16.r.e=0):=qbn e16
 have B15:Hid (st17.r.e=0→st15.r.e=0):=fun h0=>qbn e15 (B16.out h0)
 have B14:Hid (st17.r.e=0→st14.r.e=0):=fun h0=>qbn e14 (B15.out h0)
 have B13:Hid (st17.r.e=0→st13.r.e=0):=fun h0=>qbn e13 (B14.out h0)
 have B12:Hid (st17.r.e=0→st12.r.e=0):=fun h0=>qbn e12 (B13.out h0)
 have B11:Hid (st17.r.e=0→st11.r.e=0):=fun h0=>qbn e11 (B12.out h0)
 have HM:=hI (Nat.le_trans (qgx e0) (show 9≤1000 by decide))
 have MO:=hI (qfs (qdf e11))
 have E0:=hI e0
 have E1:=hI e1
 have E2:=hI e2
 have E3:=hI e3
 have E4:=hI e4
 have E5:=hI e5
 have E6:=hI e6
 have E7:=hI e7
 have E8:=hI e8
 have E9:=hI e9
 have E10:=hI e10
 have E11:=hI e11
 have E12:=hI e12
 have E13:=hI e13
 have E14:=hI e14
 have E15:=hI e15
 have E16:=hI e16
 rw [EE.out]
 have H:=hI h
 have HS:=hI hs
 have HGE:=hI hge
 have HQN:=hI h.hn
 have hmf:=hmf_X
 clear h hs hge e0 e1 e2 e3 e4 e5 e6 e7 e8 e9 e10 e11 e12 e13 e14 e15 e16
 obtain ⟨zs,hzs⟩:∃ y,y=(#[.int .i64 0,.int .i64 0,.int .i64 0,.int .i64 0,.int .i64 0,.int .i64 0,.int .i64 0,.slice none 0 0,.slice none 0 0,.slice none 0 0,.slice none 0 0,.slice none 0 0,.slice none 0 0,.int .i64 0,.int .i64 0,.int .i64 0,.slice none 0 0,.slice none 0 0]:Array Value):=⟨_,rfl⟩
 have HZ:zs.size=18:=by rw [hzs];rfl
 obtain ⟨cs,hcs⟩:∃ y,y=(#[.int .i64 (x0:Int),.int .i64 (x1:Int),.int .i64 (x2:Int),.int .i64 (x3:Int),.int .i64 (x4:Int),.int .i64 (x5:Int),.int .i64 (x6:Int),.slice none 0 0,.slice none 0 0,.slice none 0 0,.slice none 0 0,.slice none 0 0,.slice none 0 0,.int .i64 0,.int .i64 0,.int .i64 0,.slice none 0 0,.slice none 0 0]:Array Value):=⟨_,rfl⟩
 have HI:cs.size=18:=by rw [hcs];rfl
 have H1:qbw cs=true:=by rw [hcs];simp [qbw,Value.oneCell']
 have HC2:=hI hcs
 have HZS:=hI hzs
 clear hcs hzs
 go_enter Tryz.func39,Tryz.ntmps39
 go_upto_region 2 with (fail)
 rw [←HZS.out]
 obtain ⟨w00,hw0⟩:∃ W,W=(((w.alloc (.cells #[.pointer (some ⟨B,0,none⟩)] 88)).alloc (.cells zs 35)).alloc (.cells #[.func (.func 76) #[.pointer (some ⟨B,0,none⟩)] #[]] 150)):=⟨_,rfl⟩
 rw [←hw0]
 have B00:Hid (Below w.heap.size w w00):=by show Below _ _ _;rw [hw0];exact qad (qad (bel1 w _) _) _
 have Q1:Hid (w00.heap[w.heap.size]?=some (.cells #[.pointer (some ⟨B,0,none⟩)] 88 (0,0))):=by show _=_;rw [hw0];exact qay (qay (qah w _) _) _
 have O0:Hid (w00.heap[w.heap.size + 1]?=some (.cells zs 35 (0,0))):=by show _=_;rw [hw0];exact qay (qcg w _ _) _
 have Q3:Hid (w00.heap[w.heap.size + 1 + 1]?=some (.cells #[.func (.func 76) #[.pointer (some ⟨B,0,none⟩)] #[]] 150 (0,0))):=by show _=_;rw [hw0];exact qgd w _ _ _
 have V00:Hid (VRd n b B s w.heap.size (w.heap.size + 1 + 1) st w00):=⟨H.out.below B00.out,(qab Q1.out 0).trans rfl,(qab Q3.out 0).trans rfl,HQN.out,by have:=HQN.out;omega,HGE.out⟩
 have HSZ:Hid (w.heap.size + 1 + 1 < w00.heap.size):=qaa Q3.out
 clear hw0
 obtain ⟨p3,hp3⟩:∃ p,p=w.heap.size + 1 + 1:=⟨_,rfl⟩
 rw [←hp3] at V00 HSZ ⊢
 obtain ⟨r,hr⟩:∃ p,p=w.heap.size + 1:=⟨_,rfl⟩
 rw [←hr] at O0 ⊢
 obtain ⟨p1,hp1⟩:∃ p,p=w.heap.size:=⟨_,rfl⟩
 rw [←hp1] at V00 ⊢
 have QR:Hid (n≤r∧w.heap.size≤r∧p1 < p3∧r < p3∧p3 < w00.heap.size):=by have:=HQN.out;have:=HSZ.out;exact ⟨by omega,by omega,by omega,by omega,by omega⟩
 clear hp3 hr hp1 Q1 Q3 HSZ
 go_cut [4] from 7 to 24 (fun v wx=>∃ q,v=.pointer (some ⟨q,0,none⟩)∧AJ n b B s p1 p3 r st7 w zs cs q wx)
 case first =>
  go_wp2_with fail
  refine qat (S:=fun W=>W.cell? ⟨p1,0,none⟩=some (.pointer (some ⟨B,0,none⟩))∧W.cell? ⟨p3,0,none⟩=some (.func (.func 76) #[.pointer (some ⟨B,0,none⟩)] #[])∧W.cell? ⟨B,0,none⟩=some (.pointer (some ⟨b,0,none⟩))) (by kernel_rfl) ?_
  obtain ⟨w0,hw0⟩:∃ W,W=w00.drew:=⟨_,rfl⟩
  rw [←hw0]
  have B0:Hid (Below w00.heap.size w00 w0):=by show Below _ _ _;rw [hw0];exact (Below.refl _ _).drew
  clear hw0
  have Q0:=hI ((B0.out.block _ (qaa O0.out)).trans O0.out)
  have V0:=hI (V00.out.below B0.out)
  have P0:=hI ((IPost.of_below H.out B00.out).below B0.out)
  have L0:Hid (p3 < w0.heap.size):=Nat.lt_of_lt_of_le QR.out.2.2.2.2 B0.out.size
  have hS:=V0.out.sw
  unfold SW at hS
  refine tkF 7 0 rfl rfl hS ?_
  simp only [Act.put,sA,s0,s1]
  refine tkF 8 1 rfl rfl hS ?_
  simp only [Act.put,sA,s0,s1]
  refine tkF 9 2 rfl rfl hS ?_
  simp only [Act.put,sA,s0,s1]
  refine tkF 10 3 rfl rfl hS ?_
  simp only [Act.put,sA,s0,s1]
  refine tkF 12 5 rfl rfl hS ?_
  simp only [Act.put,sA,s0,s1]
  refine tkF 14 7 rfl rfl hS ?_
  simp only [Act.put,sA,s0,s1]
  refine tkF 16 9 rfl rfl hS ?_
  simp only [Act.put,sA,s0,s1]
  refine tkF 18 11 rfl rfl hS ?_
  simp only [Act.put,sA,s0,s1]
  refine tkF 20 13 rfl rfl hS ?_
  simp only [Act.put,sA,s0,s1]
  refine tkF 22 15 rfl rfl hS ?_
  simp only [Act.put,sA,s0,s1]
  obtain ⟨wz,hwz⟩:∃ W,W=w0:=⟨_,rfl⟩
  rw [←hwz] at V0 P0 Q0 L0 ⊢
  have V:=V0
  have P:=P0
  have Q:=Q0
  have L:=L0
  clear hwz V0 P0 Q0 L0
  refine qam (rs:=[4,18]) (by kernel_rfl) (by simp) (AllReadyE.cons rfl (fun K hK=>?_) (AllReadyE.cons rfl (fun K hK=>?_) AllReadyE.nil))
  rotate_left
  go_simp
  rw [←HZS.out]
  have hb:=bel1 wz (.cells zs 35)
  replace V:=hI (V.out.below hb)
  replace P:=hI (P.out.below hb)
  have RN:Hid (n≤wz.heap.size∧r < wz.heap.size∧p3 < wz.heap.size):=⟨by have:=qaa Q.out;have:=QR.out.1;omega,qaa Q.out,L.out⟩
  replace L:Hid (p3 < (wz.alloc (.cells zs 35)).heap.size):=Nat.lt_of_lt_of_le L.out hb.size
  replace Q:=hI ((hb.block _ (qaa Q.out)).trans Q.out)
  have R:=hI (qah wz (.cells zs 35))
  obtain ⟨wa,hwa⟩:∃ W,W=wz.alloc (.cells zs 35):=⟨_,rfl⟩
  rw [←hwa] at V P Q L R ⊢
  obtain ⟨q,hq⟩:∃ q,q=wz.heap.size:=⟨_,rfl⟩
  rw [←hq] at R RN ⊢
  clear hwa hb hq
  refine hK.out _ _ V.out.sw (fun _=>?_)
  clear hK K
  iterate 1 ((refine qam (rs:=[4]) (by kernel_rfl) (by simp) (AllReadyE.cons rfl (fun K hK=>?_) AllReadyE.nil));rotate_left)
  all_goals
   go_simp
   refine (qix 9 _ V.out HS.out E0.out).mono ?_
   rintro _ wz ⟨rfl,hp⟩
   replace V:=hI (V.out.post hp)
   replace P:=hI (P.out.trans hp)
   replace Q:=hI (hp.heap Q.out QR.out.1)
   replace L:Hid (p3 < wz.heap.size):=Nat.lt_of_lt_of_le L.out hp.2.size
   (try replace R:=hI (hp.heap R.out RN.out.1))
   refine hK.out _ _ V.out.sw (fun _=>?_)
   clear hK K hp
  refine qam (rs:=[6,18]) (by kernel_rfl) (by simp) (AllReadyE.cons rfl (fun K hK=>?_) (AllReadyE.cons rfl (fun K hK=>?_) AllReadyE.nil))
  rotate_left
  go_simp
  rw [←HZS.out]
  have hb:=bel1 wz (.cells zs 35)
  replace V:=hI (V.out.below hb)
  replace P:=hI (P.out.below hb)
  have RN:Hid (n≤wz.heap.size∧r < wz.heap.size∧p3 < wz.heap.size):=⟨by have:=qaa Q.out;have:=QR.out.1;omega,qaa Q.out,L.out⟩
  replace L:Hid (p3 < (wz.alloc (.cells zs 35)).heap.size):=Nat.lt_of_lt_of_le L.out hb.size
  replace Q:=hI ((hb.block _ (qaa Q.out)).trans Q.out)
  have R:=hI (qah wz (.cells zs 35))
  obtain ⟨wa,hwa⟩:∃ W,W=wz.alloc (.cells zs 35):=⟨_,rfl⟩
  rw [←hwa] at V P Q L R ⊢
  obtain ⟨q,hq⟩:∃ q,q=wz.heap.size:=⟨_,rfl⟩
  rw [←hq] at R RN ⊢
  clear hwa hb hq
  refine hK.out _ _ V.out.sw (fun _=>?_)
  clear hK K
  iterate 2 ((refine qam (rs:=[6]) (by kernel_rfl) (by simp) (AllReadyE.cons rfl (fun K hK=>?_) AllReadyE.nil));rotate_left)
  all_goals
   go_simp
   refine (qbr V.out HS.out E1.out).mono ?_
   rintro _ wz ⟨rfl,hp⟩
   replace V:=hI (V.out.post hp)
   replace P:=hI (P.out.trans hp)
   replace Q:=hI (hp.heap Q.out QR.out.1)
   replace L:Hid (p3 < wz.heap.size):=Nat.lt_of_lt_of_le L.out hp.2.size
   (try replace R:=hI (hp.heap R.out RN.out.1))
   refine hK.out _ _ V.out.sw (fun _=>?_)
   clear hK K hp
  refine qam (rs:=[8,18]) (by kernel_rfl) (by simp) (AllReadyE.cons rfl (fun K hK=>?_) (AllReadyE.cons rfl (fun K hK=>?_) AllReadyE.nil))
  rotate_left
  go_simp
  rw [←HZS.out]
  have hb:=bel1 wz (.cells zs 35)
  replace V:=hI (V.out.below hb)
  replace P:=hI (P.out.below hb)
  have RN:Hid (n≤wz.heap.size∧r < wz.heap.size∧p3 < wz.heap.size):=⟨by have:=qaa Q.out;have:=QR.out.1;omega,qaa Q.out,L.out⟩
  replace L:Hid (p3 < (wz.alloc (.cells zs 35)).heap.size):=Nat.lt_of_lt_of_le L.out hb.size
  replace Q:=hI ((hb.block _ (qaa Q.out)).trans Q.out)
  have R:=hI (qah wz (.cells zs 35))
  obtain ⟨wa,hwa⟩:∃ W,W=wz.alloc (.cells zs 35):=⟨_,rfl⟩
  rw [←hwa] at V P Q L R ⊢
  obtain ⟨q,hq⟩:∃ q,q=wz.heap.size:=⟨_,rfl⟩
  rw [←hq] at R RN ⊢
  clear hwa hb hq
  refine hK.out _ _ V.out.sw (fun _=>?_)
  clear hK K
  iterate 3 ((refine qam (rs:=[8]) (by kernel_rfl) (by simp) (AllReadyE.cons rfl (fun K hK=>?_) AllReadyE.nil));rotate_left)
  all_goals
   go_simp
   refine (qbr V.out HS.out E2.out).mono ?_
   rintro _ wz ⟨rfl,hp⟩
   replace V:=hI (V.out.post hp)
   replace P:=hI (P.out.trans hp)
   replace Q:=hI (hp.heap Q.out QR.out.1)
   replace L:Hid (p3 < wz.heap.size):=Nat.lt_of_lt_of_le L.out hp.2.size
   (try replace R:=hI (hp.heap R.out RN.out.1))
   refine hK.out _ _ V.out.sw (fun _=>?_)
   clear hK K hp
  refine qam (rs:=[10,18]) (by kernel_rfl) (by simp) (AllReadyE.cons rfl (fun K hK=>?_) (AllReadyE.cons rfl (fun K hK=>?_) AllReadyE.nil))
  rotate_left
  go_simp
  rw [←HZS.out]
  have hb:=bel1 wz (.cells zs 35)
  replace V:=hI (V.out.below hb)
  replace P:=hI (P.out.below hb)
  have RN:Hid (n≤wz.heap.size∧r < wz.heap.size∧p3 < wz.heap.size):=⟨by have:=qaa Q.out;have:=QR.out.1;omega,qaa Q.out,L.out⟩
  replace L:Hid (p3 < (wz.alloc (.cells zs 35)).heap.size):=Nat.lt_of_lt_of_le L.out hb.size
  replace Q:=hI ((hb.block _ (qaa Q.out)).trans Q.out)
  have R:=hI (qah wz (.cells zs 35))
  obtain ⟨wa,hwa⟩:∃ W,W=wz.alloc (.cells zs 35):=⟨_,rfl⟩
  rw [←hwa] at V P Q L R ⊢
  obtain ⟨q,hq⟩:∃ q,q=wz.heap.size:=⟨_,rfl⟩
  rw [←hq] at R RN ⊢
  clear hwa hb hq
  refine hK.out _ _ V.out.sw (fun _=>?_)
  clear hK K
  iterate 4 ((refine qam (rs:=[10]) (by kernel_rfl) (by simp) (AllReadyE.cons rfl (fun K hK=>?_) AllReadyE.nil));rotate_left)
  all_goals
   go_simp
   refine (qbr V.out HS.out E3.out).mono ?_
   rintro _ wz ⟨rfl,hp⟩
   replace V:=hI (V.out.post hp)
   replace P:=hI (P.out.trans hp)
   replace Q:=hI (hp.heap Q.out QR.out.1)
   replace L:Hid (p3 < wz.heap.size):=Nat.lt_of_lt_of_le L.out hp.2.size
   (try replace R:=hI (hp.heap R.out RN.out.1))
   refine hK.out _ _ V.out.sw (fun _=>?_)
   clear hK K hp
  refine qam (rs:=[12,18]) (by kernel_rfl) (by simp) (AllReadyE.cons rfl (fun K hK=>?_) (AllReadyE.cons rfl (fun K hK=>?_) AllReadyE.nil))
  rotate_left
  go_simp
  rw [←HZS.out]
  have hb:=bel1 wz (.cells zs 35)
  replace V:=hI (V.out.below hb)
  replace P:=hI (P.out.below hb)
  have RN:Hid (n≤wz.heap.size∧r < wz.heap.size∧p3 < wz.heap.size):=⟨by have:=qaa Q.out;have:=QR.out.1;omega,qaa Q.out,L.out⟩
  replace L:Hid (p3 < (wz.alloc (.cells zs 35)).heap.size):=Nat.lt_of_lt_of_le L.out hb.size
  replace Q:=hI ((hb.block _ (qaa Q.out)).trans Q.out)
  have R:=hI (qah wz (.cells zs 35))
  obtain ⟨wa,hwa⟩:∃ W,W=wz.alloc (.cells zs 35):=⟨_,rfl⟩
  rw [←hwa] at V P Q L R ⊢
  obtain ⟨q,hq⟩:∃ q,q=wz.heap.size:=⟨_,rfl⟩
  rw [←hq] at R RN ⊢
  clear hwa hb hq
  refine hK.out _ _ V.out.sw (fun _=>?_)
  clear hK K
  iterate 5 ((refine qam (rs:=[12]) (by kernel_rfl) (by simp) (AllReadyE.cons rfl (fun K hK=>?_) AllReadyE.nil));rotate_left)
  all_goals
   go_simp
   refine (qbr V.out HS.out E4.out).mono ?_
   rintro _ wz ⟨rfl,hp⟩
   replace V:=hI (V.out.post hp)
   replace P:=hI (P.out.trans hp)
   replace Q:=hI (hp.heap Q.out QR.out.1)
   replace L:Hid (p3 < wz.heap.size):=Nat.lt_of_lt_of_le L.out hp.2.size
   (try replace R:=hI (hp.heap R.out RN.out.1))
   refine hK.out _ _ V.out.sw (fun _=>?_)
   clear hK K hp
  refine qam (rs:=[14,18]) (by kernel_rfl) (by simp) (AllReadyE.cons rfl (fun K hK=>?_) (AllReadyE.cons rfl (fun K hK=>?_) AllReadyE.nil))
  rotate_left
  go_simp
  rw [←HZS.out]
  have hb:=bel1 wz (.cells zs 35)
  replace V:=hI (V.out.below hb)
  replace P:=hI (P.out.below hb)
  have RN:Hid (n≤wz.heap.size∧r < wz.heap.size∧p3 < wz.heap.size):=⟨by have:=qaa Q.out;have:=QR.out.1;omega,qaa Q.out,L.out⟩
  replace L:Hid (p3 < (wz.alloc (.cells zs 35)).heap.size):=Nat.lt_of_lt_of_le L.out hb.size
  replace Q:=hI ((hb.block _ (qaa Q.out)).trans Q.out)
  have R:=hI (qah wz (.cells zs 35))
  obtain ⟨wa,hwa⟩:∃ W,W=wz.alloc (.cells zs 35):=⟨_,rfl⟩
  rw [←hwa] at V P Q L R ⊢
  obtain ⟨q,hq⟩:∃ q,q=wz.heap.size:=⟨_,rfl⟩
  rw [←hq] at R RN ⊢
  clear hwa hb hq
  refine hK.out _ _ V.out.sw (fun _=>?_)
  clear hK K
  iterate 6 ((refine qam (rs:=[14]) (by kernel_rfl) (by simp) (AllReadyE.cons rfl (fun K hK=>?_) AllReadyE.nil));rotate_left)
  all_goals
   go_simp
   refine (qbr V.out HS.out E5.out).mono ?_
   rintro _ wz ⟨rfl,hp⟩
   replace V:=hI (V.out.post hp)
   replace P:=hI (P.out.trans hp)
   replace Q:=hI (hp.heap Q.out QR.out.1)
   replace L:Hid (p3 < wz.heap.size):=Nat.lt_of_lt_of_le L.out hp.2.size
   (try replace R:=hI (hp.heap R.out RN.out.1))
   refine hK.out _ _ V.out.sw (fun _=>?_)
   clear hK K hp
  refine qam (rs:=[16,18]) (by kernel_rfl) (by simp) (AllReadyE.cons rfl (fun K hK=>?_) (AllReadyE.cons rfl (fun K hK=>?_) AllReadyE.nil))
  rotate_left
  go_simp
  rw [←HZS.out]
  have hb:=bel1 wz (.cells zs 35)
  replace V:=hI (V.out.below hb)
  replace P:=hI (P.out.below hb)
  have RN:Hid (n≤wz.heap.size∧r < wz.heap.size∧p3 < wz.heap.size):=⟨by have:=qaa Q.out;have:=QR.out.1;omega,qaa Q.out,L.out⟩
  replace L:Hid (p3 < (wz.alloc (.cells zs 35)).heap.size):=Nat.lt_of_lt_of_le L.out hb.size
  replace Q:=hI ((hb.block _ (qaa Q.out)).trans Q.out)
  have R:=hI (qah wz (.cells zs 35))
  obtain ⟨wa,hwa⟩:∃ W,W=wz.alloc (.cells zs 35):=⟨_,rfl⟩
  rw [←hwa] at V P Q L R ⊢
  obtain ⟨q,hq⟩:∃ q,q=wz.heap.size:=⟨_,rfl⟩
  rw [←hq] at R RN ⊢
  clear hwa hb hq
  refine hK.out _ _ V.out.sw (fun _=>?_)
  clear hK K
  iterate 7 ((refine qam (rs:=[16]) (by kernel_rfl) (by simp) (AllReadyE.cons rfl (fun K hK=>?_) AllReadyE.nil));rotate_left)
  all_goals
   go_simp
   refine (qbr V.out HS.out E6.out).mono ?_
   rintro _ wz ⟨rfl,hp⟩
   replace V:=hI (V.out.post hp)
   replace P:=hI (P.out.trans hp)
   replace Q:=hI (hp.heap Q.out QR.out.1)
   replace L:Hid (p3 < wz.heap.size):=Nat.lt_of_lt_of_le L.out hp.2.size
   (try replace R:=hI (hp.heap R.out RN.out.1))
   refine hK.out _ _ V.out.sw (fun _=>?_)
   clear hK K hp
   have hS:=V.out.sw
   unfold SW at hS
   refine tkF 24 17 rfl rfl hS ?_
   simp only [Act.put,sA,s0,s1]
  refine rdy1 18 rfl (fun K hK=>?_)
  go_simp
  rw [←HZS.out]
  have hb:=bel1 wz (.cells zs 35)
  replace V:=hI (V.out.below hb)
  replace P:=hI (P.out.below hb)
  have RN:Hid (n≤wz.heap.size∧r < wz.heap.size∧p3 < wz.heap.size):=⟨by have:=qaa Q.out;have:=QR.out.1;omega,qaa Q.out,L.out⟩
  replace L:Hid (p3 < (wz.alloc (.cells zs 35)).heap.size):=Nat.lt_of_lt_of_le L.out hb.size
  replace Q:=hI ((hb.block _ (qaa Q.out)).trans Q.out)
  have R:=hI (qah wz (.cells zs 35))
  obtain ⟨wa,hwa⟩:∃ W,W=wz.alloc (.cells zs 35):=⟨_,rfl⟩
  rw [←hwa] at V P Q L R ⊢
  obtain ⟨q,hq⟩:∃ q,q=wz.heap.size:=⟨_,rfl⟩
  rw [←hq] at R RN ⊢
  clear hwa hb hq
  refine hK.out _ _ V.out.sw (fun _=>?_)
  clear hK K
  all_goals
   rw [←HC2.out]
   have hbx:=qcd _ q _ _ cs R.out (by rw [HZ,HI]) H1
   refine rdyL 19 rfl (fun K hK=>?_)
   go_simp
   refine hK.out _ _ ?_
   clear hK K hbx
   refine qas (by kernel_rfl) ?_ _
   go_wp2
   go_meet
   have hp:=P.out.box R.out (by decide) (by have:=RN.out.2.1;have:=QR.out.2.1;omega) HQN.out HGE.out (qbu _ q cs)
   exact ⟨q,rfl,V.out.box hp.1 (qbu _ q cs) (by have:=RN.out.2.2;have:=QR.out.2.2.1;omega) (by have:=RN.out.2.2;omega),hp,((qbu _ q cs).block _ (qaa Q.out) (by intro e;injection e with e;have:=RN.out.2.1;omega)).trans Q.out,setRow_heap _ q _ cs _ _ R.out,⟨RN.out.2.1,by have:=RN.out.2.2;have:=QR.out.2.2.1;omega,RN.out.2.2⟩⟩
 obtain ⟨q,rfl,hAJ⟩:=hcut
 have V2:=hI hAJ.v
 have P2:=hI hAJ.p
 have O2:=hI hAJ.o
 have R2:=hI hAJ.hr
 have QN:Hid (n≤q∧n≤r∧r < q∧w.heap.size≤r∧p1≠q∧p3≠q):=by have h1:=hAJ.q1;have:=QR.out.1;have:=QR.out.2.1;exact ⟨by omega,by omega,by omega,by omega,by omega,by omega⟩
 obtain ⟨w2,hw2⟩:∃ W,W=wc:=⟨_,rfl⟩
 rw [←hw2] at V2 P2 O2 R2 ⊢
 obtain ⟨cs2,hc2⟩:∃ y,y=cs:=⟨_,rfl⟩
 rw [←hc2] at R2 HC2
 clear hw2 hc2 hAJ V00 B00 O0 QR HI H1
 go_wp2_with fail
 refine qat (S:=fun W=>W.cell? ⟨p1,0,none⟩=some (.pointer (some ⟨B,0,none⟩))∧W.cell? ⟨p3,0,none⟩=some (.func (.func 76) #[.pointer (some ⟨B,0,none⟩)] #[])∧W.cell? ⟨B,0,none⟩=some (.pointer (some ⟨b,0,none⟩))) (by kernel_rfl) ?_
 have hbd:=(Below.refl w2.heap.size w2).drew
 have Vd:=hI (V2.out.below hbd)
 have Pd:=hI (P2.out.below hbd)
 have Rd:=hI ((hbd.block _ (qaa R2.out)).trans R2.out)
 have Od:=hI ((hbd.block _ (qaa O2.out)).trans O2.out)
 clear hbd
 have hS:=Vd.out.sw
 unfold SW at hS
 refine tkF 25 0 rfl rfl hS ?_
 simp only [Act.put,sA,s0,s1]
 refine tkF 27 2 rfl rfl hS ?_
 simp only [Act.put,sA,s0,s1]
 refine rdy1 1 rfl (fun K hK=>?_)
 go_simp
 refine (qbr Vd.out HS.out E7.out).mono ?_
 rintro _ we ⟨rfl,hp⟩
 have Ve:=hI (Vd.out.post hp)
 have Pe:=hI (Pd.out.trans hp)
 have Re:=hI (hp.heap Rd.out QN.out.1)
 have Oe:=hI (hp.heap Od.out QN.out.2.1)
 clear hp
 refine hK.out _ _ Ve.out.sw (fun _=>?_)
 clear hK K
 refine rdy1 3 rfl (fun K hK=>?_)
 go_simp
 refine (qbr Ve.out HS.out E8.out).mono ?_
 rintro _ wb ⟨rfl,hp⟩
 have Vb:=hI (Ve.out.post hp)
 have Pb:=hI (Pe.out.trans hp)
 have Rb:=hI (hp.heap Re.out QN.out.1)
 have Ob:=hI (hp.heap Oe.out QN.out.2.1)
 clear hp
 refine hK.out _ _ Vb.out.sw (fun _=>?_)
 clear hK K
 have hS:=Vb.out.sw
 unfold SW at hS
 refine tkF 29 4 rfl rfl hS ?_
 simp only [Act.put,sA,s0,s1]
 refine tkF 30 5 rfl rfl hS ?_
 simp only [Act.put,sA,s0,s1]
 have cc13:wb.cell? ⟨q,13,none⟩=some (.int .i64 0):=by rw [qab Rb.out,HC2.out];rfl
 have ff13:=Lib.frozen_of_heap Rb.out 13
 have cc14:wb.cell? ⟨q,14,none⟩=some (.int .i64 0):=by rw [qab Rb.out,HC2.out];rfl
 have ff14:=Lib.frozen_of_heap Rb.out 14
 refine rdyL 6 rfl (fun K hK=>?_)
 go_simp
 refine hK.out _ _ ?_
 clear hK K
 refine qas (by kernel_rfl) ?_ _
 go_upto_region 4 with (fail)
 have hg:wb.grownBy ((wb.setCell ⟨q,13,none⟩ (.int .i64 (x7:Int))).setCell ⟨q,14,none⟩ (.int .i64 (x8:Int))) (some q):=by
  repeat' (first | exact World.grownBy.refl _ _ | (refine qal ?_ rfl _))
 have P3:=hI (Pb.out.box Rb.out (by decide) (by have:=QN.out.2.2.1;have:=QN.out.2.2.2.1;omega) HQN.out HGE.out hg)
 have V3:=hI (Vb.out.box P3.out.1 hg QN.out.2.2.2.2.1 QN.out.2.2.2.2.2)
 have R3:=hI (qaj (qaj Rb.out 13 (.int .i64 (x7:Int))) 14 (.int .i64 (x8:Int)))
 have O3:=hI ((hg.block _ (qaa Ob.out) (by intro e;injection e with e;have:=QN.out.2.2.1;omega)).trans Ob.out)
 obtain ⟨cs3,hcs⟩:∃ y,((cs2.setIfInBounds 13 (.int .i64 (x7:Int))).setIfInBounds 14 (.int .i64 (x8:Int)))=y:=⟨_,rfl⟩
 rw [hcs] at R3
 have HC3:Hid (cs3=#[.int .i64 (x0:Int),.int .i64 (x1:Int),.int .i64 (x2:Int),.int .i64 (x3:Int),.int .i64 (x4:Int),.int .i64 (x5:Int),.int .i64 (x6:Int),.slice none 0 0,.slice none 0 0,.slice none 0 0,.slice none 0 0,.slice none 0 0,.slice none 0 0,.int .i64 (x7:Int),.int .i64 (x8:Int),.int .i64 0,.slice none 0 0,.slice none 0 0]):=by show _=_;rw [←hcs,HC2.out];rfl
 obtain ⟨w3,hw⟩:∃ W,W=((wb.setCell ⟨q,13,none⟩ (.int .i64 (x7:Int))).setCell ⟨q,14,none⟩ (.int .i64 (x8:Int))):=⟨_,rfl⟩
 rw [←hw] at P3 V3 R3 O3  ⊢
 clear Vd Pd Rd Od Ve Pe Re Oe
 clear hw hg hcs Vb Pb Rb Ob V2 P2 R2 O2 HC2 cc13 ff13 cc14 ff14
 have v1:=V3.out.v1
 have v3:=V3.out.v3
 have cB:=V3.out.i.c0
 go_wp2_with fail
 refine (qbr V3.out HS.out E9.out).mono ?_
 rintro _ wb ⟨rfl,hp⟩
 have Vb:=hI (V3.out.post hp)
 have Pb:=hI (P3.out.trans hp)
 have Rb:=hI (hp.heap R3.out QN.out.1)
 have Ob:=hI (hp.heap O3.out QN.out.2.1)
 have HMA3:Hid (w.heap.size≤w3.heap.size∧n≤w3.heap.size∧q < w3.heap.size∧r < w3.heap.size):=⟨P3.out.2.size,Nat.le_trans HQN.out P3.out.2.size,qaa R3.out,qaa O3.out⟩
 clear hp
 clear v1 v3 cB
 have cc15:wb.cell? ⟨q,15,none⟩=some (.int .i64 0):=by rw [qab Rb.out,HC3.out];rfl
 have ff15:=Lib.frozen_of_heap Rb.out 15
 go_upto_region 5 with (fail)
 have hg:wb.grownBy (wb.setCell ⟨q,15,none⟩ (.int .i64 (x9:Int))) (some q):=by
  repeat' (first | exact World.grownBy.refl _ _ | (refine qal ?_ rfl _))
 have P4:=hI (Pb.out.box Rb.out (by decide) (by have:=QN.out.2.2.1;have:=QN.out.2.2.2.1;omega) HQN.out HGE.out hg)
 have V4:=hI (Vb.out.box P4.out.1 hg QN.out.2.2.2.2.1 QN.out.2.2.2.2.2)
 have R4:=hI (qaj Rb.out 15 (.int .i64 (x9:Int)))
 have O4:=hI ((hg.block _ (qaa Ob.out) (by intro e;injection e with e;have:=QN.out.2.2.1;omega)).trans Ob.out)
 obtain ⟨cs4,hcs⟩:∃ y,(cs3.setIfInBounds 15 (.int .i64 (x9:Int)))=y:=⟨_,rfl⟩
 rw [hcs] at R4
 have HC4:Hid (cs4=#[.int .i64 (x0:Int),.int .i64 (x1:Int),.int .i64 (x2:Int),.int .i64 (x3:Int),.int .i64 (x4:Int),.int .i64 (x5:Int),.int .i64 (x6:Int),.slice none 0 0,.slice none 0 0,.slice none 0 0,.slice none 0 0,.slice none 0 0,.slice none 0 0,.int .i64 (x7:Int),.int .i64 (x8:Int),.int .i64 (x9:Int),.slice none 0 0,.slice none 0 0]):=by show _=_;rw [←hcs,HC3.out];rfl
 obtain ⟨w4,hw⟩:∃ W,W=(wb.setCell ⟨q,15,none⟩ (.int .i64 (x9:Int))):=⟨_,rfl⟩
 rw [←hw] at P4 V4 R4 O4  ⊢
 clear hw hg hcs Vb Pb Rb Ob V3 P3 R3 O3 HC3 cc15 ff15
 have v1:=V4.out.v1
 have v3:=V4.out.v3
 have cB:=V4.out.i.c0
 go_wp2_with fail
 refine (qos n b B s st10 w4 V4.out.i HGE.out HS.out).mono ?_
 rintro _ wb ⟨xe,rfl,hx,hms,hp⟩
 rw [E10.out] at hms hp
 simp only at hms hp
 have XE:=hI hx
 have ME:=hI hms
 clear hx hms
 have Vb:=hI (V4.out.post hp)
 have Pb:=hI (P4.out.trans hp)
 have Rb:=hI (hp.heap R4.out QN.out.1)
 have Ob:=hI (hp.heap O4.out QN.out.2.1)
 have HMA4:Hid (w.heap.size≤w4.heap.size∧n≤w4.heap.size∧q < w4.heap.size∧r < w4.heap.size):=⟨P4.out.2.size,Nat.le_trans HQN.out P4.out.2.size,qaa R4.out,qaa O4.out⟩
 clear hp
 clear v1 v3 cB
 have cc7:wb.cell? ⟨q,7,none⟩=some (.slice none 0 0):=by rw [qab Rb.out,HC4.out];rfl
 have ff7:=Lib.frozen_of_heap Rb.out 7
 go_upto_region 6 with (fail)
 have hg:wb.grownBy (wb.setCell ⟨q,7,none⟩ (.slice xe.A xe.z.size xe.c)) (some q):=by
  repeat' (first | exact World.grownBy.refl _ _ | (refine qal ?_ rfl _))
 have P5:=hI (Pb.out.box Rb.out (by decide) (by have:=QN.out.2.2.1;have:=QN.out.2.2.2.1;omega) HQN.out HGE.out hg)
 have V5:=hI (Vb.out.box P5.out.1 hg QN.out.2.2.2.2.1 QN.out.2.2.2.2.2)
 have R5:=hI (qaj Rb.out 7 (.slice xe.A xe.z.size xe.c))
 have O5:=hI ((hg.block _ (qaa Ob.out) (by intro e;injection e with e;have:=QN.out.2.2.1;omega)).trans Ob.out)
 have XE:=hI (XE.out.kf (KF.of_grown hg HMA4.out.2.2.1))
 obtain ⟨cs5,hcs⟩:∃ y,(cs4.setIfInBounds 7 (.slice xe.A xe.z.size xe.c))=y:=⟨_,rfl⟩
 rw [hcs] at R5
 have HC5:Hid (cs5=#[.int .i64 (x0:Int),.int .i64 (x1:Int),.int .i64 (x2:Int),.int .i64 (x3:Int),.int .i64 (x4:Int),.int .i64 (x5:Int),.int .i64 (x6:Int),.slice xe.A xe.z.size xe.c,.slice none 0 0,.slice none 0 0,.slice none 0 0,.slice none 0 0,.slice none 0 0,.int .i64 (x7:Int),.int .i64 (x8:Int),.int .i64 (x9:Int),.slice none 0 0,.slice none 0 0]):=by show _=_;rw [←hcs,HC4.out];rfl
 obtain ⟨w5,hw⟩:∃ W,W=(wb.setCell ⟨q,7,none⟩ (.slice xe.A xe.z.size xe.c)):=⟨_,rfl⟩
 rw [←hw] at P5 V5 R5 O5 XE ⊢
 clear hw hg hcs Vb Pb Rb Ob V4 P4 R4 O4 HC4 cc7 ff7
 have v1:=V5.out.v1
 have v3:=V5.out.v3
 have cB:=V5.out.i.c0
 go_wp2_with fail
 refine (qqm V5.out HS.out E11.out).mono ?_
 rintro _ wb ⟨Ao,co,rfl,hr1,hcz1,hno1,hfr1,hp⟩
 have XO:Hid (RdX kdA w5.heap.size ⟨Ao,co,qai go⟩ wb):=⟨hr1,hcz1,hno1,hfr1,fun i hi=>⟨trivial,fun _ hb=>hb.elim⟩⟩
 clear hr1 hcz1 hno1 hfr1
 have Vb:=hI (V5.out.post hp)
 have Pb:=hI (P5.out.trans hp)
 have Rb:=hI (hp.heap R5.out QN.out.1)
 have Ob:=hI (hp.heap O5.out QN.out.2.1)
 have XE:=hI (XE.out.kf (KF.of_post hp HMA4.out.2.1))
 have HMA5:Hid (w.heap.size≤w5.heap.size∧n≤w5.heap.size∧q < w5.heap.size∧r < w5.heap.size):=⟨P5.out.2.size,Nat.le_trans HQN.out P5.out.2.size,qaa R5.out,qaa O5.out⟩
 clear hp
 clear v1 v3 cB
 have cc8:wb.cell? ⟨q,8,none⟩=some (.slice none 0 0):=by rw [qab Rb.out,HC5.out];rfl
 have ff8:=Lib.frozen_of_heap Rb.out 8
 go_upto_region 7 with (fail)
 have hg:wb.grownBy (wb.setCell ⟨q,8,none⟩ (.slice Ao (qai go).size co)) (some q):=by
  repeat' (first | exact World.grownBy.refl _ _ | (refine qal ?_ rfl _))
 have P6:=hI (Pb.out.box Rb.out (by decide) (by have:=QN.out.2.2.1;have:=QN.out.2.2.2.1;omega) HQN.out HGE.out hg)
 have V6:=hI (Vb.out.box P6.out.1 hg QN.out.2.2.2.2.1 QN.out.2.2.2.2.2)
 have R6:=hI (qaj Rb.out 8 (.slice Ao (qai go).size co))
 have O6:=hI ((hg.block _ (qaa Ob.out) (by intro e;injection e with e;have:=QN.out.2.2.1;omega)).trans Ob.out)
 have XE:=hI (XE.out.kf (KF.of_grown hg HMA4.out.2.2.1))
 have XO:=hI (XO.out.kf (KF.of_grown hg HMA5.out.2.2.1))
 obtain ⟨cs6,hcs⟩:∃ y,(cs5.setIfInBounds 8 (.slice Ao (qai go).size co))=y:=⟨_,rfl⟩
 rw [hcs] at R6
 have HC6:Hid (cs6=#[.int .i64 (x0:Int),.int .i64 (x1:Int),.int .i64 (x2:Int),.int .i64 (x3:Int),.int .i64 (x4:Int),.int .i64 (x5:Int),.int .i64 (x6:Int),.slice xe.A xe.z.size xe.c,.slice Ao (qai go).size co,.slice none 0 0,.slice none 0 0,.slice none 0 0,.slice none 0 0,.int .i64 (x7:Int),.int .i64 (x8:Int),.int .i64 (x9:Int),.slice none 0 0,.slice none 0 0]):=by show _=_;rw [←hcs,HC5.out];rfl
 obtain ⟨w6,hw⟩:∃ W,W=(wb.setCell ⟨q,8,none⟩ (.slice Ao (qai go).size co)):=⟨_,rfl⟩
 rw [←hw] at P6 V6 R6 O6 XE XO ⊢
 clear hw hg hcs Vb Pb Rb Ob V5 P5 R5 O5 HC5 cc8 ff8
 have v1:=V6.out.v1
 have v3:=V6.out.v3
 have cB:=V6.out.i.c0
 have cN:w6.cell? ⟨q,0,none⟩=some (.int .i64 (x0:Int)):=by rw [qab R6.out,HC6.out];rfl
 go_wp2_with fail
 refine (qxu n b B s p1 p3 st12 x0 w6 V6.out HS.out HM.out).mono ?_
 rintro _ wb hT
 obtain ⟨xk,rfl,hx,hms,hp⟩:=hT.ls
 have hE:qan _ _ _=_:=E12.out
 rw [hE] at hms hp
 simp only at hms hp
 have XK:=hI hx
 have MK:=hI hms
 clear hx hms hT hE cN
 have Vb:=hI (V6.out.post hp)
 have Pb:=hI (P6.out.trans hp)
 have Rb:=hI (hp.heap R6.out QN.out.1)
 have Ob:=hI (hp.heap O6.out QN.out.2.1)
 have XE:=hI (XE.out.kf (KF.of_post hp HMA4.out.2.1))
 have XO:=hI (XO.out.kf (KF.of_post hp HMA5.out.2.1))
 have HMA6:Hid (w.heap.size≤w6.heap.size∧n≤w6.heap.size∧q < w6.heap.size∧r < w6.heap.size):=⟨P6.out.2.size,Nat.le_trans HQN.out P6.out.2.size,qaa R6.out,qaa O6.out⟩
 clear hp
 clear v1 v3 cB
 have cc9:wb.cell? ⟨q,9,none⟩=some (.slice none 0 0):=by rw [qab Rb.out,HC6.out];rfl
 have ff9:=Lib.frozen_of_heap Rb.out 9
 go_upto_region 8 with (fail)
 have hg:wb.grownBy (wb.setCell ⟨q,9,none⟩ (.slice xk.A xk.z.size xk.c)) (some q):=by
  repeat' (first | exact World.grownBy.refl _ _ | (refine qal ?_ rfl _))
 have P7:=hI (Pb.out.box Rb.out (by decide) (by have:=QN.out.2.2.1;have:=QN.out.2.2.2.1;omega) HQN.out HGE.out hg)
 have V7:=hI (Vb.out.box P7.out.1 hg QN.out.2.2.2.2.1 QN.out.2.2.2.2.2)
 have R7:=hI (qaj Rb.out 9 (.slice xk.A xk.z.size xk.c))
 have O7:=hI ((hg.block _ (qaa Ob.out) (by intro e;injection e with e;have:=QN.out.2.2.1;omega)).trans Ob.out)
 have XE:=hI (XE.out.kf (KF.of_grown hg HMA4.out.2.2.1))
 have XO:=hI (XO.out.kf (KF.of_grown hg HMA5.out.2.2.1))
 have XK:=hI (XK.out.kf (KF.of_grown hg HMA6.out.2.2.1))
 obtain ⟨cs7,hcs⟩:∃ y,(cs6.setIfInBounds 9 (.slice xk.A xk.z.size xk.c))=y:=⟨_,rfl⟩
 rw [hcs] at R7
 have HC7:Hid (cs7=#[.int .i64 (x0:Int),.int .i64 (x1:Int),.int .i64 (x2:Int),.int .i64 (x3:Int),.int .i64 (x4:Int),.int .i64 (x5:Int),.int .i64 (x6:Int),.slice xe.A xe.z.size xe.c,.slice Ao (qai go).size co,.slice xk.A xk.z.size xk.c,.slice none 0 0,.slice none 0 0,.slice none 0 0,.int .i64 (x7:Int),.int .i64 (x8:Int),.int .i64 (x9:Int),.slice none 0 0,.slice none 0 0]):=by show _=_;rw [←hcs,HC6.out];rfl
 obtain ⟨w7,hw⟩:∃ W,W=(wb.setCell ⟨q,9,none⟩ (.slice xk.A xk.z.size xk.c)):=⟨_,rfl⟩
 rw [←hw] at P7 V7 R7 O7 XE XO XK ⊢
 clear hw hg hcs Vb Pb Rb Ob V6 P6 R6 O6 HC6 cc9 ff9
 have v1:=V7.out.v1
 have v3:=V7.out.v3
 have cB:=V7.out.i.c0
 have cN:w7.cell? ⟨q,0,none⟩=some (.int .i64 (x0:Int)):=by rw [qab R7.out,HC7.out];rfl
 go_wp2_with fail
 refine (qxx n b B s p1 p3 st13 x0 w7 V7.out HS.out HM.out).mono ?_
 rintro _ wb hT
 obtain ⟨xm,rfl,hx,hms,hp⟩:=hT.ls
 have hE:qan _ _ _=_:=E13.out
 rw [hE] at hms hp
 simp only at hms hp
 have XM:=hI hx
 have MM:=hI hms
 clear hx hms hT hE cN
 have Vb:=hI (V7.out.post hp)
 have Pb:=hI (P7.out.trans hp)
 have Rb:=hI (hp.heap R7.out QN.out.1)
 have Ob:=hI (hp.heap O7.out QN.out.2.1)
 have XE:=hI (XE.out.kf (KF.of_post hp HMA4.out.2.1))
 have XO:=hI (XO.out.kf (KF.of_post hp HMA5.out.2.1))
 have XK:=hI (XK.out.kf (KF.of_post hp HMA6.out.2.1))
 have HMA7:Hid (w.heap.size≤w7.heap.size∧n≤w7.heap.size∧q < w7.heap.size∧r < w7.heap.size):=⟨P7.out.2.size,Nat.le_trans HQN.out P7.out.2.size,qaa R7.out,qaa O7.out⟩
 clear hp
 clear v1 v3 cB
 have cc10:wb.cell? ⟨q,10,none⟩=some (.slice none 0 0):=by rw [qab Rb.out,HC7.out];rfl
 have ff10:=Lib.frozen_of_heap Rb.out 10
 go_upto_region 9 with (fail)
 have hg:wb.grownBy (wb.setCell ⟨q,10,none⟩ (.slice xm.A xm.z.size xm.c)) (some q):=by
  repeat' (first | exact World.grownBy.refl _ _ | (refine qal ?_ rfl _))
 have P8:=hI (Pb.out.box Rb.out (by decide) (by have:=QN.out.2.2.1;have:=QN.out.2.2.2.1;omega) HQN.out HGE.out hg)
 have V8:=hI (Vb.out.box P8.out.1 hg QN.out.2.2.2.2.1 QN.out.2.2.2.2.2)
 have R8:=hI (qaj Rb.out 10 (.slice xm.A xm.z.size xm.c))
 have O8:=hI ((hg.block _ (qaa Ob.out) (by intro e;injection e with e;have:=QN.out.2.2.1;omega)).trans Ob.out)
 have XE:=hI (XE.out.kf (KF.of_grown hg HMA4.out.2.2.1))
 have XO:=hI (XO.out.kf (KF.of_grown hg HMA5.out.2.2.1))
 have XK:=hI (XK.out.kf (KF.of_grown hg HMA6.out.2.2.1))
 have XM:=hI (XM.out.kf (KF.of_grown hg HMA7.out.2.2.1))
 obtain ⟨cs8,hcs⟩:∃ y,(cs7.setIfInBounds 10 (.slice xm.A xm.z.size xm.c))=y:=⟨_,rfl⟩
 rw [hcs] at R8
 have HC8:Hid (cs8=#[.int .i64 (x0:Int),.int .i64 (x1:Int),.int .i64 (x2:Int),.int .i64 (x3:Int),.int .i64 (x4:Int),.int .i64 (x5:Int),.int .i64 (x6:Int),.slice xe.A xe.z.size xe.c,.slice Ao (qai go).size co,.slice xk.A xk.z.size xk.c,.slice xm.A xm.z.size xm.c,.slice none 0 0,.slice none 0 0,.int .i64 (x7:Int),.int .i64 (x8:Int),.int .i64 (x9:Int),.slice none 0 0,.slice none 0 0]):=by show _=_;rw [←hcs,HC7.out];rfl
 obtain ⟨w8,hw⟩:∃ W,W=(wb.setCell ⟨q,10,none⟩ (.slice xm.A xm.z.size xm.c)):=⟨_,rfl⟩
 rw [←hw] at P8 V8 R8 O8 XE XO XK XM ⊢
 clear hw hg hcs Vb Pb Rb Ob V7 P7 R7 O7 HC7 cc10 ff10
 have HRW:Hid (Calls Tryz.prog 87 #[.pointer (some ⟨b,0,none⟩),.int .i64 1000] w8 fun e w'=>RRowP b s (rowR s.data.toList 1000 st14.r) w8 e w'):=qjg b s st14.r 1000 w8 V8.out.i.rd V8.out.i.gl HS.out (by decide)
 have v1:=V8.out.v1
 have v3:=V8.out.v3
 have cB:=V8.out.i.c0
 go_wp2_with fail
 refine (HRW.out).mono ?_
 rintro _ wb ⟨Af,cf,rfl,hrd,hnc,hlo,hP⟩
 have hst:(⟨(rowR s.data.toList 1000 st14.r).1,st14.odd⟩:IS)=st15:=by
  have h1:((rowC 1 (by decide)).rd s.data.toList st14).1=st15:=congrArg (fun q=>q.1) E14.out
  rw [←h1]
  show _=(⟨(rowR s.data.toList 1000 st14.r).1,st14.odd || decide ((rowR s.data.toList 1000 st14.r).2.length % 1≠0)⟩:IS)
  rw [Nat.mod_one]
  simp
 have hp:IPost n b B s st15 w8 wb:=by rw [←hst];exact ⟨V8.out.i.rpost hP,hP.gr2⟩
 obtain ⟨lf,hlf⟩:∃ y,(rowR s.data.toList 1000 st14.r).2=y:=⟨_,rfl⟩
 rw [hlf] at hrd hnc ⊢
 have XF:Hid (RdN0 w8.heap.size ⟨Af,cf,ints lf⟩ wb):=⟨hrd,by rw [qao];exact hnc.2,hnc.1,hlo⟩
 have MF:Hid (intM (ints lf)=gf∧nnI (ints lf)):=by
  have h1:=qwk lf
  have h2:grp 1 (lf.length / 1) lf=gf:=by rw [←hlf];exact congrArg (fun q=>q.2) E14.out
  exact ⟨h1.1.trans h2,h1.2⟩
 have hzf:(ints lf).size=lf.length:=qao lf
 have HZF:=hI hzf
 rw [←hzf]
 clear hrd hnc hlo hP hst hlf hzf HRW
 have Vb:=hI (V8.out.post hp)
 have Pb:=hI (P8.out.trans hp)
 have Rb:=hI (hp.heap R8.out QN.out.1)
 have Ob:=hI (hp.heap O8.out QN.out.2.1)
 have XE:=hI (XE.out.kf (KF.of_post hp HMA4.out.2.1))
 have XO:=hI (XO.out.kf (KF.of_post hp HMA5.out.2.1))
 have XK:=hI (XK.out.kf (KF.of_post hp HMA6.out.2.1))
 have XM:=hI (XM.out.kf (KF.of_post hp HMA7.out.2.1))
 have HMA8:Hid (w.heap.size≤w8.heap.size∧n≤w8.heap.size∧q < w8.heap.size∧r < w8.heap.size):=⟨P8.out.2.size,Nat.le_trans HQN.out P8.out.2.size,qaa R8.out,qaa O8.out⟩
 clear hp
 clear v1 v3 cB
 have cc11:wb.cell? ⟨q,11,none⟩=some (.slice none 0 0):=by rw [qab Rb.out,HC8.out];rfl
 have ff11:=Lib.frozen_of_heap Rb.out 11
 go_upto_region 10 with (fail)
 have hg:wb.grownBy (wb.setCell ⟨q,11,none⟩ (.slice Af (ints lf).size cf)) (some q):=by
  repeat' (first | exact World.grownBy.refl _ _ | (refine qal ?_ rfl _))
 have P9:=hI (Pb.out.box Rb.out (by decide) (by have:=QN.out.2.2.1;have:=QN.out.2.2.2.1;omega) HQN.out HGE.out hg)
 have V9:=hI (Vb.out.box P9.out.1 hg QN.out.2.2.2.2.1 QN.out.2.2.2.2.2)
 have R9:=hI (qaj Rb.out 11 (.slice Af (ints lf).size cf))
 have O9:=hI ((hg.block _ (qaa Ob.out) (by intro e;injection e with e;have:=QN.out.2.2.1;omega)).trans Ob.out)
 have XE:=hI (XE.out.kf (KF.of_grown hg HMA4.out.2.2.1))
 have XO:=hI (XO.out.kf (KF.of_grown hg HMA5.out.2.2.1))
 have XK:=hI (XK.out.kf (KF.of_grown hg HMA6.out.2.2.1))
 have XM:=hI (XM.out.kf (KF.of_grown hg HMA7.out.2.2.1))
 have XF:=hI (XF.out.kf (KF.of_grown hg HMA8.out.2.2.1))
 obtain ⟨cs9,hcs⟩:∃ y,(cs8.setIfInBounds 11 (.slice Af (ints lf).size cf))=y:=⟨_,rfl⟩
 rw [hcs] at R9
 have HC9:Hid (cs9=#[.int .i64 (x0:Int),.int .i64 (x1:Int),.int .i64 (x2:Int),.int .i64 (x3:Int),.int .i64 (x4:Int),.int .i64 (x5:Int),.int .i64 (x6:Int),.slice xe.A xe.z.size xe.c,.slice Ao (qai go).size co,.slice xk.A xk.z.size xk.c,.slice xm.A xm.z.size xm.c,.slice Af (ints lf).size cf,.slice none 0 0,.int .i64 (x7:Int),.int .i64 (x8:Int),.int .i64 (x9:Int),.slice none 0 0,.slice none 0 0]):=by show _=_;rw [←hcs,HC8.out];rfl
 obtain ⟨w9,hw⟩:∃ W,W=(wb.setCell ⟨q,11,none⟩ (.slice Af (ints lf).size cf)):=⟨_,rfl⟩
 rw [←hw] at P9 V9 R9 O9 XE XO XK XM XF ⊢
 clear hw hg hcs Vb Pb Rb Ob V8 P8 R8 O8 HC8 cc11 ff11
 have v1:=V9.out.v1
 have v3:=V9.out.v3
 have cB:=V9.out.i.c0
 have cN:w9.cell? ⟨q,0,none⟩=some (.int .i64 (x0:Int)):=by rw [qab R9.out,HC9.out];rfl
 go_wp2_with fail
 refine (qxy n b B s p1 p3 st15 x0 w9 V9.out HS.out HM.out).mono ?_
 rintro _ wb hT
 obtain ⟨xd,rfl,hx,hms,hp⟩:=hT.ls
 have hE:qan _ _ _=_:=E15.out
 rw [hE] at hms hp
 simp only at hms hp
 have XD:=hI hx
 have MD:=hI hms
 clear hx hms hT hE cN
 have Vb:=hI (V9.out.post hp)
 have Pb:=hI (P9.out.trans hp)
 have Rb:=hI (hp.heap R9.out QN.out.1)
 have Ob:=hI (hp.heap O9.out QN.out.2.1)
 have XE:=hI (XE.out.kf (KF.of_post hp HMA4.out.2.1))
 have XO:=hI (XO.out.kf (KF.of_post hp HMA5.out.2.1))
 have XK:=hI (XK.out.kf (KF.of_post hp HMA6.out.2.1))
 have XM:=hI (XM.out.kf (KF.of_post hp HMA7.out.2.1))
 have XF:=hI (XF.out.kf (KF.of_post hp HMA8.out.2.1))
 have HMA9:Hid (w.heap.size≤w9.heap.size∧n≤w9.heap.size∧q < w9.heap.size∧r < w9.heap.size):=⟨P9.out.2.size,Nat.le_trans HQN.out P9.out.2.size,qaa R9.out,qaa O9.out⟩
 clear hp
 clear v1 v3 cB
 have cc12:wb.cell? ⟨q,12,none⟩=some (.slice none 0 0):=by rw [qab Rb.out,HC9.out];rfl
 have ff12:=Lib.frozen_of_heap Rb.out 12
 go_upto_region 11 with (fail)
 have hg:wb.grownBy (wb.setCell ⟨q,12,none⟩ (.slice xd.A xd.z.size xd.c)) (some q):=by
  repeat' (first | exact World.grownBy.refl _ _ | (refine qal ?_ rfl _))
 have P10:=hI (Pb.out.box Rb.out (by decide) (by have:=QN.out.2.2.1;have:=QN.out.2.2.2.1;omega) HQN.out HGE.out hg)
 have V10:=hI (Vb.out.box P10.out.1 hg QN.out.2.2.2.2.1 QN.out.2.2.2.2.2)
 have R10:=hI (qaj Rb.out 12 (.slice xd.A xd.z.size xd.c))
 have O10:=hI ((hg.block _ (qaa Ob.out) (by intro e;injection e with e;have:=QN.out.2.2.1;omega)).trans Ob.out)
 have XE:=hI (XE.out.kf (KF.of_grown hg HMA4.out.2.2.1))
 have XO:=hI (XO.out.kf (KF.of_grown hg HMA5.out.2.2.1))
 have XK:=hI (XK.out.kf (KF.of_grown hg HMA6.out.2.2.1))
 have XM:=hI (XM.out.kf (KF.of_grown hg HMA7.out.2.2.1))
 have XF:=hI (XF.out.kf (KF.of_grown hg HMA8.out.2.2.1))
 have XD:=hI (XD.out.kf (KF.of_grown hg HMA9.out.2.2.1))
 obtain ⟨cs10,hcs⟩:∃ y,(cs9.setIfInBounds 12 (.slice xd.A xd.z.size xd.c))=y:=⟨_,rfl⟩
 rw [hcs] at R10
 have HC10:Hid (cs10=#[.int .i64 (x0:Int),.int .i64 (x1:Int),.int .i64 (x2:Int),.int .i64 (x3:Int),.int .i64 (x4:Int),.int .i64 (x5:Int),.int .i64 (x6:Int),.slice xe.A xe.z.size xe.c,.slice Ao (qai go).size co,.slice xk.A xk.z.size xk.c,.slice xm.A xm.z.size xm.c,.slice Af (ints lf).size cf,.slice xd.A xd.z.size xd.c,.int .i64 (x7:Int),.int .i64 (x8:Int),.int .i64 (x9:Int),.slice none 0 0,.slice none 0 0]):=by show _=_;rw [←hcs,HC9.out];rfl
 obtain ⟨w10,hw⟩:∃ W,W=(wb.setCell ⟨q,12,none⟩ (.slice xd.A xd.z.size xd.c)):=⟨_,rfl⟩
 rw [←hw] at P10 V10 R10 O10 XE XO XK XM XF XD ⊢
 clear hw hg hcs Vb Pb Rb Ob V9 P9 R9 O9 HC9 cc12 ff12
 have v1:=V10.out.v1
 have v3:=V10.out.v3
 have cB:=V10.out.i.c0
 go_wp2_with fail
 refine (qxz n b B s st16 w10 V10.out.i HGE.out HS.out).mono ?_
 rintro _ wb ⟨xi,xs,rfl,hx,hy,hms,hp⟩
 rw [E16.out] at hms hp
 simp only at hms hp
 have XI:=hI hx
 have XS:=hI hy
 have MS:=hI hms
 clear hx hy hms
 have Vb:=hI (V10.out.post hp)
 have Pb:=hI (P10.out.trans hp)
 have Rb:=hI (hp.heap R10.out QN.out.1)
 have Ob:=hI (hp.heap O10.out QN.out.2.1)
 have XE:=hI (XE.out.kf (KF.of_post hp HMA4.out.2.1))
 have XO:=hI (XO.out.kf (KF.of_post hp HMA5.out.2.1))
 have XK:=hI (XK.out.kf (KF.of_post hp HMA6.out.2.1))
 have XM:=hI (XM.out.kf (KF.of_post hp HMA7.out.2.1))
 have XF:=hI (XF.out.kf (KF.of_post hp HMA8.out.2.1))
 have XD:=hI (XD.out.kf (KF.of_post hp HMA9.out.2.1))
 have HMA10:Hid (w.heap.size≤w10.heap.size∧n≤w10.heap.size∧q < w10.heap.size∧r < w10.heap.size):=⟨P10.out.2.size,Nat.le_trans HQN.out P10.out.2.size,qaa R10.out,qaa O10.out⟩
 clear hp
 clear v1 v3 cB
 have cc16:wb.cell? ⟨q,16,none⟩=some (.slice none 0 0):=by rw [qab Rb.out,HC10.out];rfl
 have ff16:=Lib.frozen_of_heap Rb.out 16
 have cc17:wb.cell? ⟨q,17,none⟩=some (.slice none 0 0):=by rw [qab Rb.out,HC10.out];rfl
 have ff17:=Lib.frozen_of_heap Rb.out 17
 go_upto_region 12 with (fail)
 have hg:wb.grownBy ((wb.setCell ⟨q,16,none⟩ (.slice xi.A xi.z.size xi.c)).setCell ⟨q,17,none⟩ (.slice xs.A xs.z.size xs.c)) (some q):=by
  repeat' (first | exact World.grownBy.refl _ _ | (refine qal ?_ rfl _))
 have P11:=hI (Pb.out.box Rb.out (by decide) (by have:=QN.out.2.2.1;have:=QN.out.2.2.2.1;omega) HQN.out HGE.out hg)
 have V11:=hI (Vb.out.box P11.out.1 hg QN.out.2.2.2.2.1 QN.out.2.2.2.2.2)
 have R11:=hI (qaj (qaj Rb.out 16 (.slice xi.A xi.z.size xi.c)) 17 (.slice xs.A xs.z.size xs.c))
 have O11:=hI ((hg.block _ (qaa Ob.out) (by intro e;injection e with e;have:=QN.out.2.2.1;omega)).trans Ob.out)
 have XE:=hI (XE.out.kf (KF.of_grown hg HMA4.out.2.2.1))
 have XO:=hI (XO.out.kf (KF.of_grown hg HMA5.out.2.2.1))
 have XK:=hI (XK.out.kf (KF.of_grown hg HMA6.out.2.2.1))
 have XM:=hI (XM.out.kf (KF.of_grown hg HMA7.out.2.2.1))
 have XF:=hI (XF.out.kf (KF.of_grown hg HMA8.out.2.2.1))
 have XD:=hI (XD.out.kf (KF.of_grown hg HMA9.out.2.2.1))
 have XI:=hI (XI.out.kf (KF.of_grown hg HMA10.out.2.2.1))
 have XS:=hI (XS.out.kf (KF.of_grown hg HMA10.out.2.2.1))
 obtain ⟨cs11,hcs⟩:∃ y,((cs10.setIfInBounds 16 (.slice xi.A xi.z.size xi.c)).setIfInBounds 17 (.slice xs.A xs.z.size xs.c))=y:=⟨_,rfl⟩
 rw [hcs] at R11
 have HC11:Hid (cs11=#[.int .i64 (x0:Int),.int .i64 (x1:Int),.int .i64 (x2:Int),.int .i64 (x3:Int),.int .i64 (x4:Int),.int .i64 (x5:Int),.int .i64 (x6:Int),.slice xe.A xe.z.size xe.c,.slice Ao (qai go).size co,.slice xk.A xk.z.size xk.c,.slice xm.A xm.z.size xm.c,.slice Af (ints lf).size cf,.slice xd.A xd.z.size xd.c,.int .i64 (x7:Int),.int .i64 (x8:Int),.int .i64 (x9:Int),.slice xi.A xi.z.size xi.c,.slice xs.A xs.z.size xs.c]):=by show _=_;rw [←hcs,HC10.out];rfl
 obtain ⟨w11,hw⟩:∃ W,W=((wb.setCell ⟨q,16,none⟩ (.slice xi.A xi.z.size xi.c)).setCell ⟨q,17,none⟩ (.slice xs.A xs.z.size xs.c)):=⟨_,rfl⟩
 rw [←hw] at P11 V11 R11 O11 XE XO XK XM XF XD XI XS ⊢
 clear hw hg hcs Vb Pb Rb Ob V10 P10 R10 O10 HC10 cc16 ff16 cc17 ff17
 have HI:cs11.size=18:=by rw [HC11.out];rfl
 have H1:qbw cs11=true:=by rw [HC11.out];simp [qbw,Value.oneCell']
 have y1:=qav R11.out HI
 have y2:=qbh R11.out
 have y3:=qav O11.out HZ
 go_wp2
 clear y1 y2 y3
 have hg:=qbu w11 r cs11
 have hE:=setRow_heap w11 r _ cs11 _ _ O11.out
 refine bodyPost_ret (v:=.agg cs11) (qtv (t:=2) rfl rfl hE HI) rfl ?_
 have XE:=hI (XE.out.kf (KF.of_grown hg HMA4.out.2.2.2))
 have XO:=hI (XO.out.kf (KF.of_grown hg HMA5.out.2.2.2))
 have XK:=hI (XK.out.kf (KF.of_grown hg HMA6.out.2.2.2))
 have XM:=hI (XM.out.kf (KF.of_grown hg HMA7.out.2.2.2))
 have XF:=hI (XF.out.kf (KF.of_grown hg HMA8.out.2.2.2))
 have XD:=hI (XD.out.kf (KF.of_grown hg HMA9.out.2.2.2))
 have XI:=hI (XI.out.kf (KF.of_grown hg HMA10.out.2.2.2))
 have XS:=hI (XS.out.kf (KF.of_grown hg HMA10.out.2.2.2))
 refine ⟨⟨(x0:Int),(x1:Int),(x2:Int),(x3:Int),(x4:Int),(x5:Int),(x6:Int),xe,⟨Ao,co,qai go⟩,xk,xm,⟨Af,cf,ints lf⟩,xd,(x7:Int),(x8:Int),(x9:Int),xi,xs⟩,by rw [HC11.out];rfl,fun W' hk=>?_,fun h0=>?_,P11.out.box O11.out (by decide) QN.out.2.2.2.1 HQN.out HGE.out hg⟩
 ·have ze:=XE.out.kf (hk.mono HMA4.out.1)
  have zo:=XO.out.kf (hk.mono HMA5.out.1)
  have zk:=XK.out.kf (hk.mono HMA6.out.1)
  have zm:=XM.out.kf (hk.mono HMA7.out.1)
  have zf:=XF.out.kf (hk.mono HMA8.out.1)
  have zd:=XD.out.kf (hk.mono HMA9.out.1)
  have zi:=XI.out.kf (hk.mono HMA10.out.1)
  have zs':=XS.out.kf (hk.mono HMA10.out.1)
  exact ⟨⟨ze.rd,fun i hi=>(ze.el i hi).1⟩,⟨zo.rd,zo.no⟩,⟨zk.rd,zk.cz,zk.no⟩,fun i hi=>(zk.el i hi).1,⟨zm.rd,zm.cz,zm.no⟩,fun i hi=>(zm.el i hi).1,⟨zf.rd,zf.cz,zf.no⟩,⟨zd.rd,zd.cz,zd.no⟩,fun i hi=>(zd.el i hi).1,⟨zi.rd,zi.cz,zi.no⟩,⟨zs'.rd,zs'.cz,zs'.no⟩⟩
 ·have me:=ME.out (B11.out h0)
  have mk:=MK.out (B13.out h0)
  have mm:=MM.out (B14.out h0)
  have md:=MD.out (B16.out h0)
  have ms:=MS.out h0
  refine ⟨?_,⟨⟨Int.natCast_nonneg _,Int.natCast_nonneg _,Int.natCast_nonneg _,Int.natCast_nonneg _,Int.natCast_nonneg _,Int.natCast_nonneg _,Int.natCast_nonneg _,Int.natCast_nonneg _,Int.natCast_nonneg _,Int.natCast_nonneg _⟩,me.2,MO.out.2,mk.2,mm.2,MF.out.2,md.2,ms.1.2,ms.2.2⟩⟩
  show ((x0,[x1,x2,x3,x4,x5,x6,x7,x8,x9]),(xe.z.toList.map entM,(qbg (qai go),(xk.z.toList.map knM,(xm.z.toList.map (fun x=>intM x.z),(intM (ints lf),(xd.z.toList.map (fun x=>qbg x.z),(xi.z.toList.map itM,xs.z.toList.map seM))))))))=_
  rw [me.1,MO.out.1,mk.1,mm.1,MF.out.1,md.1,ms.1.1,ms.2.1]
end Go.Proofs.YtnmojicfmcbgmaaGreatDoor
namespace Go.Proofs.YtnmojicfmcbgmaaGreatDoor
open Go.RowKit Go.Sort Go.Lib Nb
set_option maxRecDepth 100000
theorem qdx {α:Type} [Inhabited α] {z:Array α} {f:α→List UInt8} {C:Nat} (h:∀ x ∈ z.toList,(f x).length≤C):∀ k,k≤z.size→((z.toList.take k).flatMap f).length≤k * C:=by
 intro k
 induction k with
 | zero=>intro _;simp
 | succ k ih =>
   intro hk
   rw [qbi z _ (by omega),List.length_append,Nat.succ_mul]
   have h1:=ih (by omega)
   have h2:=h z[k]! (by rw [getElem!_pos z k (by omega)];simp)
   omega
theorem qfd {d:Array (Int×Int)} (hm:∀ x ∈ d.toList,may6 x.1∧may6 x.2) (hs:d.size≤1000):(rowB (qbg d).flatten).length≤20000:=by
 have hl:∀ g ∈ qbg d,g.length=2:=fun g hg=>by
  obtain ⟨x,_,rfl⟩:=List.mem_map.1 hg
  rfl
 have e1:=qcp 2 (qbg d) hl
 have e2:(qbg d).length=d.size:=by unfold qbg;simp
 have e3:=qdq (qbg d).flatten (fun n hn=>by
  obtain ⟨g,hg,hn⟩:=List.mem_flatten.1 hn
  obtain ⟨x,hx,rfl⟩:=List.mem_map.1 hg
  have:=hm x hx
  unfold may6 at this
  unfold natP at hn
  simp only [List.mem_cons,List.not_mem_nil,or_false] at hn
  omega)
 have e4:=qbp (qbg d).flatten.length (by omega)
 unfold rowB
 rw [List.length_append]
 omega
theorem qhf {d:Array Int} (hm:∀ x ∈ d.toList,may6 x) (hs:d.size≤1000):(rowB (intM d).flatten).length≤10000:=by
 have hl:∀ g ∈ intM d,g.length=1:=fun g hg=>by
  obtain ⟨x,_,rfl⟩:=List.mem_map.1 hg
  rfl
 have e1:=qcp 1 (intM d) hl
 have e2:(intM d).length=d.size:=by unfold intM;simp
 have e3:=qdq (intM d).flatten (fun n hn=>by
  obtain ⟨g,hg,hn⟩:=List.mem_flatten.1 hn
  obtain ⟨x,hx,rfl⟩:=List.mem_map.1 hg
  have:=hm x hx
  unfold may6 at this
  simp only [List.mem_cons,List.not_mem_nil,or_false] at hn
  omega)
 have e4:=qbp (intM d).flatten.length (by omega)
 unfold rowB
 rw [List.length_append]
 omega
structure HearB (r:RP):Prop where
 kn:r.k.z.size≤20
 k:∀ x ∈ r.k.z.toList,may6 x.base∧((∀ y ∈ x.r.z.toList,may6 y.1∧may6 y.2)∧x.r.z.size≤1000)∧((∀ y ∈ x.a.z.toList,may6 y.1∧may6 y.2)∧x.a.z.size≤1000)
 mn:r.m.z.size≤20
 m:∀ x ∈ r.m.z.toList,(∀ y ∈ x.z.toList,may6 y)∧x.z.size≤1000
 fr:(∀ y ∈ r.fr.z.toList,may6 y)∧r.fr.z.size≤1000
 dn:r.d.z.size≤20
 d:∀ x ∈ r.d.z.toList,(∀ y ∈ x.z.toList,may6 y.1∧may6 y.2)∧x.z.size≤1000
def knB (k:KE):List UInt8:=numB k.base.toNat ++ (rowB (qbg k.r.z).flatten ++ rowB (qbg k.a.z).flatten)
theorem qot {x:KE} (h:may6 x.base∧((∀ y ∈ x.r.z.toList,may6 y.1∧may6 y.2)∧x.r.z.size≤1000)∧((∀ y ∈ x.a.z.toList,may6 y.1∧may6 y.2)∧x.a.z.size≤1000)):(knB x).length≤50000:=by
 have h1:=qbp x.base.toNat (by have:=h.1;unfold may6 at this;omega)
 have h2:=qfd h.2.1.1 h.2.1.2
 have h3:=qfd h.2.2.1 h.2.2.2
 unfold knB
 rw [List.length_append,List.length_append]
 omega
def qou (r:RP):List UInt8:=r.k.z.toList.flatMap knB ++ (r.m.z.toList.flatMap (fun x=>rowB (intM x.z).flatten) ++ (rowB (intM r.fr.z).flatten ++ r.d.z.toList.flatMap (fun x=>rowB (qbg x.z).flatten)))
set_option maxHeartbeats 16000000 in
theorem qss {w0:World} {b:Nat} {l:List UInt8} (r:RP) (w:World) (h:WW w0 b l w) (hr:RdP w0 r) (hm:HearB r) (hl:l.length≤20000000) :
 Calls Tryz.prog 26 #[.pointer (some ⟨b,0,none⟩),.agg (encP r).toArray] w fun e w'=>e=.returned (.tuple #[])∧WW w0 b (l ++ qou r) w'∧Below w0.heap.size w w'∧KeepT b w w':=by
 have HR:=hI hr
 have HM:=hI hm
 have hbl:=h.lt
 obtain ⟨cs,hcs⟩:∃ cs,cs=(encP r).toArray:=⟨_,rfl⟩
 have HCS:=hI hcs
 have HG:Hid ((w.alloc (.cells cs 35)).heap[w.heap.size]?=some (.cells cs 35 (0,0))):=heap_alloc_new w _
 have HW:=hI (h.step (bel1 w (.cells cs 35)))
 have HB0:=hI ((bel1 w (.cells cs 35)).mono h.b.size)
 have HK0:=hI (KeepT.of_below (b:=b) (bel1 w (.cells cs 35)))
 have q9:cs[9]?=some (.slice r.k.A r.k.z.size r.k.c):=by rw [hcs];rfl
 have q10:cs[10]?=some (.slice r.m.A r.m.z.size r.m.c):=by rw [hcs];rfl
 have q11:cs[11]?=some (.slice r.fr.A r.fr.z.size r.fr.c):=by rw [hcs];rfl
 have q12:cs[12]?=some (.slice r.d.A r.d.z.size r.d.c):=by rw [hcs];rfl
 have Q9:=hI q9
 have Q10:=hI q10
 have Q11:=hI q11
 have Q12:=hI q12
 have hkn:=hm.kn
 have hmn:=hm.mn
 have hdn:=hm.dn
 clear q9 q10 q11 q12 hr hm h
 have hgoal:∀ y:Array Value,cs=y→Calls Tryz.prog 26 #[.pointer (some ⟨b,0,none⟩),.agg y] w fun e w'=>e=.returned (.tuple #[])∧WW w0 b (l ++ qou r) w'∧Below w0.heap.size w w'∧KeepT b w w':=by
  rintro _ rfl
  simp only [encP] at hcs
  rw [hcs]
  go_enter Tryz.func26,Tryz.ntmps26
  rw [←hcs]
  clear hcs
  obtain ⟨w1,hw1⟩:∃ W,W=w.alloc (.cells cs 35):=⟨_,rfl⟩
  rw [←hw1] at HG HW HB0 HK0
  have c9:=(cell_of_row w1 w.heap.size 9 _ _ (0,0) HG.out).trans Q9.out
  rw [hw1] at c9
  go_wp2
  rw [←hw1]
  clear hw1 c9
  go_loopw [13] (fun i wr=>∃ k:Nat,i=.int .i64 k∧k≤r.k.z.size∧Hid (WW w0 b (l ++ (r.k.z.toList.take k).flatMap knB) wr)∧Hid (Below w0.heap.size w1 wr)∧Hid (KeepT b w1 wr)) (fun i _=>r.k.z.size - (intOf i).toNat)
  case atStart=>exact ⟨0,rfl,Nat.zero_le _,hI (by simpa using HW.out),hI (Below.refl _ _),hI (KeepT.refl _ _)⟩
  case round =>
   obtain ⟨k,rfl,hk,HWr,HBr,HKr⟩:=hrel
   by_cases hlt:k < r.k.z.size
   ·have kz:(k:Int) < (r.k.z.size:Int):=by omega
    have HS:Hid ((r.k.z.toList.take (k + 1)).flatMap knB=(r.k.z.toList.take k).flatMap knB ++ knB r.k.z[k]!):=qbi _ _ hlt
    have hlr:(l ++ (r.k.z.toList.take k).flatMap knB).length≤22000000:=by
     have:=qdx (f:=knB) (fun x hx=>qot (HM.out.k x hx)) k hk
     have:k * 50000≤20 * 50000:=Nat.mul_le_mul_right _ (by omega)
     rw [List.length_append];omega
    have hRT:=HR.out.below HWr.out.b
    obtain ⟨b2,off,hA,hb2,f⟩:=hRT.k.rd.at_ (i:=k) hlt
    have HE:=hI (HM.out.k r.k.z[k]! (by rw [getElem!_pos r.k.z k hlt];simp))
    have HEL:=hI (HR.out.kk k hlt)
    obtain ⟨x,hx⟩:∃ x,r.k.z[k]! = x:=⟨_,rfl⟩
    rw [hx] at f HS HE HEL
    have e0:=f 0 (by omega)
    have e1:=f 1 (by omega)
    have e2:=f 2 (by omega)
    have hA':r.k.A=some ⟨b2,off,none⟩:=hA
    rw [hA']
    clear hx f hRT hA
    simp only [Nat.add_zero,qcs,List.getElem!_cons_zero,List.getElem!_cons_succ] at e0 e1 e2
    have hbr:=HWr.out.lt
    obtain ⟨l2,hl2⟩:∃ y,l ++ (r.k.z.toList.take k).flatMap knB=y:=⟨_,rfl⟩
    rw [hl2] at HWr hlr
    have HL2:=hI hl2
    clear hl2
    have HBX:Hid (((wr.alloc (.cells #[.int .i64 x.base,.slice x.r.A x.r.z.size x.r.c,.slice x.a.A x.a.z.size x.a.c] 81)).alloc (.cells #[.int .i64 x.base] 3)).heap[wr.heap.size]?=some (.cells #[.int .i64 x.base,.slice x.r.A x.r.z.size x.r.c,.slice x.a.A x.a.z.size x.a.c] 81 (0,0))):=qes (heap_alloc_new wr _)
    have HBb:Hid (Below wr.heap.size wr ((wr.alloc (.cells #[.int .i64 x.base,.slice x.r.A x.r.z.size x.r.c,.slice x.a.A x.a.z.size x.a.c] 81)).alloc (.cells #[.int .i64 x.base] 3))):=qad (bel1 wr _) _
    have HN:=hI (wnum (w:=(wr.alloc (.cells #[.int .i64 x.base,.slice x.r.A x.r.z.size x.r.c,.slice x.a.A x.a.z.size x.a.c] 81)).alloc (.cells #[.int .i64 x.base] 3)) (g:=wr.heap.size + 1) (c:=1) [x.base] (HWr.out.step HBb.out) (heap_alloc2_new wr _ _) (by intro y hy;simp only [List.mem_cons,List.not_mem_nil,or_false] at hy;subst hy;exact HE.out.1) (by simp) (by omega) (by omega))
    simp only [List.length_cons,List.length_nil,Nat.zero_add,List.map_cons,List.map_nil,List.flatMap_cons,List.flatMap_nil,List.append_nil] at HN
    go_wp2_with fail
    refine HN.out.mono ?_
    rintro _ w3 ⟨rfl,hW3,hb3,hk3⟩
    have HX3:=hI (qew hk3 (by omega) (by decide) HBX.out)
    have HW3:=hI hW3
    have HB3:Hid (Below w0.heap.size wr w3):=hI ((HBb.out.mono HWr.out.b.size).trans hb3)
    have HK3:=hI ((KeepT.of_below (b:=b) HBb.out).trans hk3)
    have c1:=(cell_of_row w3 wr.heap.size 1 _ _ (0,0) HX3.out).trans rfl
    have hnb:=qbp x.base.toNat (by have:=HE.out.1;unfold may6 at this;omega)
    clear hW3 hb3 hk3 HN e0 e1 e2
    have HT:=hI (wrowR x.r.A x.r.c x.r.z HW3.out (HEL.out.below HW3.out.b).r.rd HE.out.2.1.1 HE.out.2.1.2 (by rw [List.length_append];omega))
    go_wp2_with fail
    refine HT.out.mono ?_
    rintro _ w4 ⟨rfl,hW4,hb4,hk4⟩
    have HX4:=hI (qew hk4 (by omega) (by decide) HX3.out)
    have HW4:=hI hW4
    have HB4:=hI (HB3.out.trans hb4)
    have HK4:=hI (HK3.out.trans hk4)
    have c2:=(cell_of_row w4 wr.heap.size 2 _ _ (0,0) HX4.out).trans rfl
    have hrl:=qfd HE.out.2.1.1 HE.out.2.1.2
    clear hW4 hb4 hk4 HT c1
    have HK:=hI (wrowA x.a.A x.a.c x.a.z HW4.out (HEL.out.below HW4.out.b).a.rd HE.out.2.2.1 HE.out.2.2.2 (by rw [List.length_append,List.length_append];omega))
    clear hnb hrl
    go_wp2_with fail
    refine HK.out.mono ?_
    rintro _ w5 ⟨rfl,hW5,hb5,hk5⟩
    have HW5:=hI hW5
    have HB5:=hI (HB4.out.trans hb5)
    have HK5:=hI (HK4.out.trans hk5)
    clear hW5 hb5 hk5 HK c2
    go_wp2
    go_roundw
    case rel =>
     refine ⟨k + 1,by go_num,by omega,hI ?_,hI (HBr.out.trans HB5.out),hI (HKr.out.trans HK5.out)⟩
     rw [HS.out,←List.append_assoc,HL2.out]
     have:=HW5.out
     rwa [List.append_assoc,List.append_assoc] at this
    case measure=>simp [intOf];omega
   ·have hlt':decide ((k:Int) < (r.k.z.size:Int))=false:=decide_eq_false (by omega)
    have hkz:k=r.k.z.size:=by omega
    have hlr:(l ++ (r.k.z.toList.take k).flatMap knB).length≤22000000:=by
     have:=qdx (f:=knB) (fun x hx=>qot (HM.out.k x hx)) k hk
     have:k * 50000≤20 * 50000:=Nat.mul_le_mul_right _ (by omega)
     rw [List.length_append];omega
    rw [hkz,List.take_of_length_le (by simp)] at HWr hlr
    obtain ⟨l1,hl1⟩:∃ y,l ++ r.k.z.toList.flatMap knB=y:=⟨_,rfl⟩
    rw [hl1] at HWr hlr
    have HL1:=hI hl1
    have HG2:=hI (qew HKr.out (by omega) (by decide) HG.out)
    have HBA:=hI (HB0.out.trans HBr.out)
    have HKA:=hI (HK0.out.trans HKr.out)
    have c10:=(cell_of_row wr w.heap.size 10 _ _ (0,0) HG2.out).trans Q10.out
    clear hl1 hkz hk HBr HKr
    go_wp2
    clear c10
    obtain ⟨w2,HW2⟩:∃ W,Hid (W=wr):=⟨wr,hI rfl⟩
    have HS2:Hid (Below w0.heap.size w2 wr∧KeepT b w2 wr):=hI (HW2.out ▸ ⟨Below.refl _ _,KeepT.refl _ _⟩)
    rw [←HW2.out] at HG2 HBA HKA
    clear HW2
    go_loopw [34] (fun i wq=>∃ k:Nat,i=.int .i64 k∧k≤r.m.z.size∧Hid (WW w0 b (l1 ++ (r.m.z.toList.take k).flatMap (fun x=>rowB (intM x.z).flatten)) wq)∧Hid (Below w0.heap.size w2 wq)∧Hid (KeepT b w2 wq)) (fun i _=>r.m.z.size - (intOf i).toNat)
    case atStart=>exact ⟨0,rfl,Nat.zero_le _,hI (by simpa using HWr.out),hI HS2.out.1,hI HS2.out.2⟩
    case round =>
     obtain ⟨k,rfl,hk,HWq,HBq,HKq⟩:=hrel
     have hbd:=qdx (z:=r.m.z) (f:=(fun x=>rowB (intM x.z).flatten)) (C:=10000) (fun x hx=>qhf (HM.out.m x hx).1 (HM.out.m x hx).2) k hk
     have hkc:k * 10000≤20 * 10000:=Nat.mul_le_mul_right _ (by omega)
     by_cases hlt:k < r.m.z.size
     ·have kz:(k:Int) < (r.m.z.size:Int):=by omega
      have HS:Hid ((r.m.z.toList.take (k + 1)).flatMap (fun x=>rowB (intM x.z).flatten)=(r.m.z.toList.take k).flatMap (fun x=>rowB (intM x.z).flatten) ++ (fun x=>rowB (intM x.z).flatten) r.m.z[k]!):=qbi _ _ hlt
      have hlr2:(l1 ++ (r.m.z.toList.take k).flatMap (fun x=>rowB (intM x.z).flatten)).length≤23000000:=by
       rw [List.length_append];omega
      have hRT:=HR.out.below HWq.out.b
      obtain ⟨b2,off,hA,hb2,ff⟩:=hRT.m.rd.at_ (i:=k) hlt
      have HE:=hI (HM.out.m r.m.z[k]! (by rw [getElem!_pos r.m.z k hlt];simp))
      have HEL:=hI (HR.out.mm k hlt)
      obtain ⟨x,hx⟩:∃ x,r.m.z[k]! = x:=⟨_,rfl⟩
      rw [hx] at ff HS HE HEL
      have e0:=ff 0 (by omega)
      have hA':r.m.A=some ⟨b2,off,none⟩:=hA
      rw [hA']
      clear hx ff hRT hA hbd hkc
      simp only [Nat.add_zero,Nat.mul_one,encW,RW.v,List.getElem!_cons_zero] at e0
      obtain ⟨l2,hl2⟩:∃ y,l1 ++ (r.m.z.toList.take k).flatMap (fun x=>rowB (intM x.z).flatten)=y:=⟨_,rfl⟩
      rw [hl2] at HWq hlr2
      have HL2:=hI hl2
      clear hl2
      have HT:=hI (wrow x.A x.c x.z HWq.out (HEL.out.below HWq.out.b).rd HE.out.1 HE.out.2 (by omega))
      go_wp2_with fail
      refine HT.out.mono ?_
      rintro _ w4 ⟨rfl,hW4,hb4,hk4⟩
      have HW4:=hI hW4
      have HB4:=hI hb4
      have HK4:=hI hk4
      clear hW4 hb4 hk4 HT e0
      go_wp2
      go_roundw
      case rel =>
       refine ⟨k + 1,by go_num,by omega,hI ?_,hI (HBq.out.trans HB4.out),hI (HKq.out.trans HK4.out)⟩
       rw [HS.out,←List.append_assoc,HL2.out]
       exact HW4.out
      case measure=>simp [intOf];omega
     ·have hlt':decide ((k:Int) < (r.m.z.size:Int))=false:=decide_eq_false (by omega)
      have hkz:k=r.m.z.size:=by omega
      have hlr2:(l1 ++ (r.m.z.toList.take k).flatMap (fun x=>rowB (intM x.z).flatten)).length≤23000000:=by
       rw [List.length_append];omega
      rw [hkz,List.take_of_length_le (by simp)] at HWq hlr2
      obtain ⟨l3,hl3⟩:∃ y,l1 ++ r.m.z.toList.flatMap (fun x=>rowB (intM x.z).flatten)=y:=⟨_,rfl⟩
      rw [hl3] at HWq hlr2
      have HL3:=hI hl3
      have HG3:=hI (qew HKq.out (by omega) (by decide) HG2.out)
      have HBA:=hI (HBA.out.trans HBq.out)
      have HKA:=hI (HKA.out.trans HKq.out)
      have c11:=(cell_of_row wr w.heap.size 11 _ _ (0,0) HG3.out).trans Q11.out
      have HF:=hI (wrow r.fr.A r.fr.c r.fr.z HWq.out (HR.out.below HWq.out.b).fr.rd HM.out.fr.1 HM.out.fr.2 (by omega))
      clear hl3 hkz hk HBq HKq hbd hkc
      go_wp2_with fail
      refine HF.out.mono ?_
      rintro _ w3 ⟨rfl,hW3,hb3,hk3⟩
      have hfl:=qhf HM.out.fr.1 HM.out.fr.2
      have HWr:=hI hW3
      have HG4:=hI (qew hk3 (by omega) (by decide) HG3.out)
      have HBA:=hI (HBA.out.trans hb3)
      have HKA:=hI (HKA.out.trans hk3)
      have c12:=(cell_of_row w3 w.heap.size 12 _ _ (0,0) HG4.out).trans Q12.out
      clear hW3 hb3 hk3 HF c11
      obtain ⟨l4,hl4⟩:∃ y,l3 ++ rowB (intM r.fr.z).flatten=y:=⟨_,rfl⟩
      have hlr4:l4.length≤23100000:=by rw [←hl4,List.length_append];omega
      rw [hl4] at HWr
      have HL4:=hI hl4
      clear hl4 hfl
      go_wp2
      clear c12
      go_loopw [49] (fun i wq=>∃ k:Nat,i=.int .i64 k∧k≤r.d.z.size∧Hid (WW w0 b (l4 ++ (r.d.z.toList.take k).flatMap (fun x=>rowB (qbg x.z).flatten)) wq)∧Hid (Below w0.heap.size w3 wq)∧Hid (KeepT b w3 wq)) (fun i _=>r.d.z.size - (intOf i).toNat)
      case atStart=>exact ⟨0,rfl,Nat.zero_le _,hI (by simpa using HWr.out),hI (Below.refl _ _),hI (KeepT.refl _ _)⟩
      case round =>
       obtain ⟨k,rfl,hk,HWq,HBq,HKq⟩:=hrel
       have hbd:=qdx (z:=r.d.z) (f:=(fun x=>rowB (qbg x.z).flatten)) (C:=20000) (fun x hx=>qfd (HM.out.d x hx).1 (HM.out.d x hx).2) k hk
       have hkc:k * 20000≤20 * 20000:=Nat.mul_le_mul_right _ (by omega)
       by_cases hlt:k < r.d.z.size
       ·have kz:(k:Int) < (r.d.z.size:Int):=by omega
        have HS:Hid ((r.d.z.toList.take (k + 1)).flatMap (fun x=>rowB (qbg x.z).flatten)=(r.d.z.toList.take k).flatMap (fun x=>rowB (qbg x.z).flatten) ++ (fun x=>rowB (qbg x.z).flatten) r.d.z[k]!):=qbi _ _ hlt
        have hlr2:(l4 ++ (r.d.z.toList.take k).flatMap (fun x=>rowB (qbg x.z).flatten)).length≤24000000:=by
         rw [List.length_append];omega
        have hRT:=HR.out.below HWq.out.b
        obtain ⟨b2,off,hA,hb2,ff⟩:=hRT.d.rd.at_ (i:=k) hlt
        have HE:=hI (HM.out.d r.d.z[k]! (by rw [getElem!_pos r.d.z k hlt];simp))
        have HEL:=hI (HR.out.dd k hlt)
        obtain ⟨x,hx⟩:∃ x,r.d.z[k]! = x:=⟨_,rfl⟩
        rw [hx] at ff HS HE HEL
        have e0:=ff 0 (by omega)
        have hA':r.d.A=some ⟨b2,off,none⟩:=hA
        rw [hA']
        clear hx ff hRT hA hbd hkc
        simp only [Nat.add_zero,Nat.mul_one,encW,RW.v,List.getElem!_cons_zero] at e0
        obtain ⟨l2,hl2⟩:∃ y,l4 ++ (r.d.z.toList.take k).flatMap (fun x=>rowB (qbg x.z).flatten)=y:=⟨_,rfl⟩
        rw [hl2] at HWq hlr2
        have HL2:=hI hl2
        clear hl2
        have HT:=hI (wrowR x.A x.c x.z HWq.out (HEL.out.below HWq.out.b).rd HE.out.1 HE.out.2 (by omega))
        go_wp2_with fail
        refine HT.out.mono ?_
        rintro _ w4 ⟨rfl,hW4,hb4,hk4⟩
        have HW4:=hI hW4
        have HB4:=hI hb4
        have HK4:=hI hk4
        clear hW4 hb4 hk4 HT e0
        go_wp2
        go_roundw
        case rel =>
         refine ⟨k + 1,by go_num,by omega,hI ?_,hI (HBq.out.trans HB4.out),hI (HKq.out.trans HK4.out)⟩
         rw [HS.out,←List.append_assoc,HL2.out]
         exact HW4.out
        case measure=>simp [intOf];omega
       ·have hlt':decide ((k:Int) < (r.d.z.size:Int))=false:=decide_eq_false (by omega)
        have hkz:k=r.d.z.size:=by omega
        have hlr2:(l4 ++ (r.d.z.toList.take k).flatMap (fun x=>rowB (qbg x.z).flatten)).length≤24000000:=by
         rw [List.length_append];omega
        rw [hkz,List.take_of_length_le (by simp)] at HWq hlr2
        clear hbd hkc
        go_wp2
        go_end0
        refine ⟨rfl,?_,HBA.out.trans HBq.out,HKA.out.trans HKq.out⟩
        have:=HWq.out
        rw [←HL4.out,←HL3.out,←HL1.out] at this
        unfold qou
        simpa [List.append_assoc] using this
 exact hgoal _ hcs
end Go.Proofs.YtnmojicfmcbgmaaGreatDoor
