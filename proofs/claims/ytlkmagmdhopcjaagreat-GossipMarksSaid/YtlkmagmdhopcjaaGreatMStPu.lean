/- Texts that the law leans on. -/
import Derived.Test.YtlkmagmdhopcjaaGreatMStV
import Derived.Deep.CutRange
import Derived.Test.YtlkmagmdhopcjaaGreatMKaF
import Derived.Test.YtlkmagmdhopcjaaGreatMAnyE
namespace Go.Proofs.YtlkmagmdhopcjaaGreat
open Go.RowKit Go.Sort Go.Lib
set_option maxRecDepth 100000
attribute [local go_sem ↓] qak qai qdk
attribute [local go_sem] qao qaj qah qaq qbd qgz
def putK (r:RP) (e:EN):Int:=if (chkR r && decide (1≤qbe e.id∧qbe e.id≤r.n))=true then (if (doneI r e.id && e.ph != 6)=true then 33 else putC r.e.z e) else 2
def StPutO (r:RP) (e:EN) (w:World) (x:Ending) (w':World):Prop :=
 (∃ y:RW EN,x=.returned (.tuple #[.agg (encP { r with e:=y }).toArray,.int .i64 (putK r e)])∧(putK r e≠0→y=r.e)∧(putK r e=0→y.z=putD r.e.z e∧RdK encE 10 w'.heap.size w' y.A y.z∧FreshA w.heap.size y.A))∧Below w.heap.size w w'
theorem putK_two {r:RP} {e:EN} (h:(chkR r && decide (1≤qbe e.id∧qbe e.id≤r.n))=false):putK r e=2:=by unfold putK;rw [if_neg (by rw [h];decide)]
theorem putK_of {r:RP} {e:EN} (h:chkR r=true) (h1:1≤qbe e.id∧qbe e.id≤r.n):putK r e=if (doneI r e.id && e.ph != 6)=true then 33 else putC r.e.z e:=by unfold putK;rw [if_pos (by rw [h,decide_eq_true h1];rfl)]
theorem qyu {r:RP} {e:EN} {w W:World} {cs:Array Value} {k:Int} (hcs:cs=(encP r).toArray) (hk:putK r e=k) (h0:k≠0) (hb:Below w.heap.size w W) (g:Nat) (hg:w.heap.size≤g):StPutO r e w (.returned (.tuple #[.agg cs,.int .i64 k])) (W.setRow g cs) :=
 ⟨⟨r.e,by rw [hcs,hk],fun _=>rfl,fun h=>absurd (hk.symm.trans h) h0⟩,qbk hb hg _⟩
set_option maxHeartbeats 16000000 in
theorem qsj (r:RP) (e:EN) (w:World) (h:RdP w r) (he:RdE w e) (hf:FewC r) :
 Calls Tryz.prog 136 #[.agg (encP r).toArray,.agg (encE e).toArray] w fun x w'=>StPutO r e w x w':=by
 have HC:Hid (∀ W,Below w.heap.size w W→Calls Tryz.prog 15 #[.agg (encP r).toArray] W fun e w'=>e=.returned (.int .i64 (repE r))∧Below W.heap.size W w'):=fun W hb=>qbh r W (h.below hb) hf
 have HD:Hid (chkR r=true→∀ W,Below w.heap.size w W→Calls Tryz.prog 174 #[.agg (encP r).toArray,.int .i64 e.id] W fun x w'=>x=.returned (.bool (doneI r e.id))∧Below W.heap.size W w'):=fun hc W hb =>
  qsq r e.id W (h.d.below hb).rd (fun i hi=>((h.dd i hi).below hb).rd) (chkR_d hc) (by have:=hf.d;omega)
 have HP:Hid (∀ W,Below w.heap.size w W→Calls Tryz.prog 203 #[.slice r.e.A r.e.z.size r.e.c,.agg (encE e).toArray] W fun x w'=>PutF r.e.z e W.heap.size x w'∧Below W.heap.size W w'):=fun W hb=>tPutF_any r.e.A r.e.c r.e.z e W ((h.below hb).tab hf) (he.below hb)
 have HS2:=hI (@putK_two r e)
 have HSO:=hI (@putK_of r e)
 have HYE:=hI (@qcw r)
 have HNO:=hI (@qhj r)
 have HBD:Hid (∀ (cs:Array Value),cs=(encP r).toArray→∀ (k:Int),putK r e=k→k≠0→∀ W g,Below w.heap.size w W→w.heap.size≤g→StPutO r e w (.returned (.tuple #[.agg cs,.int .i64 k])) (W.setRow g cs)):=fun cs h1 k h2 h3 W g h4 h5=>qyu h1 h2 h3 h4 g h5
 obtain ⟨cs,hcs⟩:∃ cs,cs=(encP r).toArray:=⟨_,rfl⟩
 obtain ⟨hsz,hone⟩:=rowP hcs
 obtain ⟨ce,hce⟩:∃ x,x=(encE e).toArray:=⟨_,rfl⟩
 have hs1:ce.size=10:=by rw [hce];rfl
 have HQ0:Hid (cs[0]?=some (.int .i64 r.n)):=by show _=_;rw [hcs];rfl
 have HQ7:Hid (cs[7]?=some (.slice r.e.A r.e.z.size r.e.c)):=by show _=_;rw [hcs];rfl
 have HE0:Hid (ce[0]?=some (.int .i64 e.id)):=by show _=_;rw [hce];rfl
 have HE1:Hid (ce[1]?=some (.int .i64 e.ph)):=by show _=_;rw [hce];rfl
 obtain ⟨sf,hsf⟩:∃ s,qbe e.id=s:=⟨_,rfl⟩
 have HSf:Hid (∀ W,Calls Tryz.prog 66 #[.int .i64 e.id] W fun e w'=>e=.returned (.int .i64 sf)∧W=w'):=fun W=>hsf ▸ qky e.id W
 rw [hsf] at HS2 HSO
 rw [←hcs] at HC HD ⊢
 rw [←hce] at HP ⊢
 have HCS:=hI hcs
 clear h he hf hsf hcs hce
 obtain ⟨E,hE⟩:∃ E,repE r=E:=⟨_,rfl⟩
 rw [hE] at HC
 have HEE:=hI hE
 clear hE
 go_enter Tryz.func136,Tryz.ntmps136
 have HX:=hI (BoxG.t1 w cs ce qbp 35 58 35)
 have HE:=hI (BoxG.t2 w cs ce qbp 35 58 35)
 have HZ:=hI (BoxG.t3 w cs ce qbp 35 58 35)
 simp only [qbp] at HX HE HZ
 have x1:=HX.out.box hsz
 have x2:=HX.out.rowAt
 have d0:=HE.out.at_ 0 HE0.out
 by_cases hc:chkR r=true
 rotate_left
 ·obtain rfl:E=2:=HEE.out.symm.trans (HNO.out hc)
  have HB2:Hid (putK r e=2):=HS2.out (by rw [Bool.eq_false_iff.2 hc];rfl)
  clear HS2 HSO hc
  go_wp2_with (first | (go_at_call 66;refine (HSf.out _).mono ?_;rintro _ _ ⟨rfl,rfl⟩) | (go_at_call 15;refine (HC.out _ HX.out.b).mono ?_;rintro _ w1 ⟨rfl,hb⟩;have HX1:=hI (HX.out.next hb);have HF1:=hI (HE.out.next hb);have HZ1:=hI (HZ.out.next hb);clear hb x1 x2 d0;have x1:=HX1.out.box hsz;have x2:=HX1.out.rowAt;have c0:=HX1.out.at_ 0 HQ0.out;have d0:=HF1.out.at_ 0 HE0.out;have x3:=HZ1.out.box (n:=18) rfl))
  refine bodyPost_ret (qav rfl rfl (setRow_heap _ _ _ _ _ _ HZ1.out.row) hsz) rfl ?_
  exact HBD.out _ HCS.out 2 HB2.out (by decide) _ _ HX1.out.b (by omega)
 obtain rfl:E=0:=HEE.out.symm.trans (HYE.out hc)
 have HDD:=hI (HD.out hc)
 by_cases h1:sf < 1
 ·have HB2:Hid (putK r e=2):=HS2.out (by rw [decide_eq_false (by omega),Bool.and_false])
  clear HS2 HSO hc
  have e1:decide (sf < 1)=true:=decide_eq_true h1
  go_wp2_with (first | (go_at_call 66;refine (HSf.out _).mono ?_;rintro _ _ ⟨rfl,rfl⟩) | (go_at_call 15;refine (HC.out _ HX.out.b).mono ?_;rintro _ w1 ⟨rfl,hb⟩;have HX1:=hI (HX.out.next hb);have HF1:=hI (HE.out.next hb);have HZ1:=hI (HZ.out.next hb);clear hb x1 x2 d0;have x1:=HX1.out.box hsz;have x2:=HX1.out.rowAt;have c0:=HX1.out.at_ 0 HQ0.out;have d0:=HF1.out.at_ 0 HE0.out;have x3:=HZ1.out.box (n:=18) rfl))
  refine bodyPost_ret (qav rfl rfl (setRow_heap _ _ _ _ _ _ HZ1.out.row) hsz) rfl ?_
  exact HBD.out _ HCS.out 2 HB2.out (by decide) _ _ HX1.out.b (by omega)
 have e1:decide (sf < 1)=false:=decide_eq_false h1
 by_cases h2:r.n < sf
 ·have HB2:Hid (putK r e=2):=HS2.out (by rw [decide_eq_false (by omega),Bool.and_false])
  clear HS2 HSO hc
  have e2:decide (r.n < sf)=true:=decide_eq_true h2
  go_wp2_with (first | (go_at_call 66;refine (HSf.out _).mono ?_;rintro _ _ ⟨rfl,rfl⟩) | (go_at_call 15;refine (HC.out _ HX.out.b).mono ?_;rintro _ w1 ⟨rfl,hb⟩;have HX1:=hI (HX.out.next hb);have HF1:=hI (HE.out.next hb);have HZ1:=hI (HZ.out.next hb);clear hb x1 x2 d0;have x1:=HX1.out.box hsz;have x2:=HX1.out.rowAt;have c0:=HX1.out.at_ 0 HQ0.out;have d0:=HF1.out.at_ 0 HE0.out;have x3:=HZ1.out.box (n:=18) rfl))
  refine bodyPost_ret (qav rfl rfl (setRow_heap _ _ _ _ _ _ HZ1.out.row) hsz) rfl ?_
  exact HBD.out _ HCS.out 2 HB2.out (by decide) _ _ HX1.out.b (by omega)
 have e2:decide (r.n < sf)=false:=decide_eq_false h2
 have HPK:=hI (HSO.out hc ⟨by omega,by omega⟩)
 clear HS2 HSO hc h1 h2
 obtain ⟨D,hD⟩:∃ D,doneI r e.id=D:=⟨_,rfl⟩
 rw [hD] at HPK HDD
 clear hD
 obtain ⟨p6,hp6⟩:∃ p,(e.ph != 6)=p:=⟨_,rfl⟩
 rw [hp6] at HPK
 by_cases h3:D=true∧p6=true
 ·obtain ⟨rfl,rfl⟩:=h3
  have HB3:Hid (putK r e=33):=HPK.out.trans rfl
  go_wp2_with (first | (go_at_call 66;refine (HSf.out _).mono ?_;rintro _ _ ⟨rfl,rfl⟩) | (go_at_call 15;refine (HC.out _ HX.out.b).mono ?_;rintro _ w1 ⟨rfl,hb⟩;have HX1:=hI (HX.out.next hb);have HF1:=hI (HE.out.next hb);have HZ1:=hI (HZ.out.next hb);clear hb x1 x2 d0;have x1:=HX1.out.box hsz;have x2:=HX1.out.rowAt;have c0:=HX1.out.at_ 0 HQ0.out;have d0:=HF1.out.at_ 0 HE0.out;have x3:=HZ1.out.box (n:=18) rfl) | (go_at_call 174;refine (HDD.out _ HX1.out.b).mono ?_;rintro _ w2 ⟨rfl,hb⟩;have HX2:=hI (HX1.out.next hb);have HF2:=hI (HF1.out.next hb);have HZ2:=hI (HZ1.out.next hb);clear hb x1 x2 d0 c0 x3;have x1:=HX2.out.box hsz;have x2:=HX2.out.rowAt;have x3:=HZ2.out.box (n:=18) rfl;have d1:=HF2.out.at_ 1 HE1.out;have c7:=HX2.out.at_ 7 HQ7.out;have y1:=HF2.out.box hs1;have y2:=HF2.out.rowAt))
  refine bodyPost_ret (qav rfl rfl (setRow_heap _ _ _ _ _ _ HZ2.out.row) hsz) rfl ?_
  exact HBD.out _ HCS.out 33 HB3.out (by decide) _ _ HX2.out.b (by omega)
 have HK4:Hid (putK r e=putC r.e.z e):=HPK.out.trans (if_neg (by cases D <;> cases p6 <;> simp_all))
 obtain ⟨K,hK⟩:∃ K,putC r.e.z e=K:=⟨_,rfl⟩
 obtain ⟨z,hz⟩:∃ z,putD r.e.z e=z:=⟨_,rfl⟩
 have HPP:Hid (∀ W,Below w.heap.size w W→Calls Tryz.prog 203 #[.slice r.e.A r.e.z.size r.e.c,.agg ce] W fun x w'=>(∃ A c,x=.returned (.tuple #[.slice A z.size c,.int .i64 K])∧RdK encE 10 w'.heap.size w' A z∧∀ q,A=some q→W.heap.size≤q.block)∧Below W.heap.size W w'):=fun W hb=>(HP.out W hb).mono fun x w' ⟨⟨A,c,h1,h2,h3⟩,h4⟩=>by
  rw [hz] at h1 h2
  rw [hK] at h1
  exact ⟨⟨A,c,h1,h2.rd,h3⟩,h4⟩
 rw [hK] at HK4
 have HZ0:=hI hz
 clear HP hK hz HPK
 have h4:D=false∨(D=true∧p6=false):=by cases D <;> cases p6 <;> simp_all
 clear h3 HD
 have hcs2:=HCS.out
 by_cases hK0:K=0
 ·subst hK0
  obtain ⟨cs4,hcs4⟩:∃ f:Option Addr→Nat→Array Value,f=fun A c=>(encP { r with e:=⟨A,c,z⟩ }).toArray:=⟨_,rfl⟩
  have HS4:Hid (∀ A c,cs4 A c=(encP { r with e:=⟨A,c,z⟩ }).toArray):=fun A c=>by rw [hcs4]
  have HST:Hid (∀ A c,cs.setIfInBounds 7 (.slice A z.size c)=cs4 A c):=fun A c=>by rw [hcs4,hcs2];rfl
  have HI4:Hid (∀ A c,(cs4 A c).size=18∧qbt (cs4 A c)=true):=fun A c=>rowP (HS4.out A c)
  clear hcs4 hcs2
  rcases h4 with rfl | ⟨rfl,rfl⟩
  all_goals
   go_wp2_with (first | (go_at_call 66;refine (HSf.out _).mono ?_;rintro _ _ ⟨rfl,rfl⟩) | (go_at_call 15;refine (HC.out _ HX.out.b).mono ?_;rintro _ w1 ⟨rfl,hb⟩;have HX1:=hI (HX.out.next hb);have HF1:=hI (HE.out.next hb);have HZ1:=hI (HZ.out.next hb);clear hb x1 x2 d0;have x1:=HX1.out.box hsz;have x2:=HX1.out.rowAt;have c0:=HX1.out.at_ 0 HQ0.out;have d0:=HF1.out.at_ 0 HE0.out;have x3:=HZ1.out.box (n:=18) rfl) | (go_at_call 174;refine (HDD.out _ HX1.out.b).mono ?_;rintro _ w2 ⟨rfl,hb⟩;have HX2:=hI (HX1.out.next hb);have HF2:=hI (HF1.out.next hb);have HZ2:=hI (HZ1.out.next hb);clear hb x1 x2 d0 c0 x3;have x1:=HX2.out.box hsz;have x2:=HX2.out.rowAt;have x3:=HZ2.out.box (n:=18) rfl;have d1:=HF2.out.at_ 1 HE1.out;have c7:=HX2.out.at_ 7 HQ7.out;have y1:=HF2.out.box hs1;have y2:=HF2.out.rowAt) | (go_at_call 203;refine (HPP.out _ HX2.out.b).mono ?_;rintro _ w3 ⟨⟨A3,c3,rfl,hr3,hf3⟩,hb⟩;have HX3:=hI (HX2.out.next hb);have HZ3:=hI (HZ2.out.next hb);have HR3:=hI hr3;have HF3:Hid (FreshA w2.heap.size A3):=hf3;clear hb hr3 hf3 x1 x2 x3 c7 y1 y2 d1;have c7:=HX3.out.at_ 7 HQ7.out;have f7:=HX3.out.froz 7;have HX4:=hI (HX3.out.set (Nat.le_refl _) 7 (.slice A3 z.size c3));have HZ4:=hI (HZ3.out.far (Nat.le_refl _) (by omega) 7 (.slice A3 z.size c3));rw [HST.out] at HX4;obtain ⟨hsz4,hone4⟩:=HI4.out A3 c3;have x1:=HX4.out.box hsz4;have x2:=HX4.out.rowAt;have x3:=HZ4.out.box (n:=18) rfl))
   refine bodyPost_ret (qav rfl rfl (setRow_heap _ _ _ _ _ _ HZ4.out.row) hsz4) rfl ?_
   have hh:∀ b,b≠w.heap.size→b≠w.heap.size + 1 + 1→((w3.setCell ⟨w.heap.size,7,none⟩ (.slice A3 z.size c3)).setRow (w.heap.size + 1 + 1) (cs4 A3 c3)).heap[b]?=w3.heap[b]?:=fun b h1 h2=>(setRow_other _ _ b _ h2).trans (Below.heap_setCell _ _ _ _ h1)
   have hs3:w.heap.size + 1 + 1 < w2.heap.size:=HZ2.out.lt
   refine ⟨⟨⟨A3,c3,z⟩,by rw [HS4.out,HK4.out];rfl,fun h=>absurd HK4.out h,fun _=>⟨HZ0.out.symm,?_,FreshA.mono HF3.out (by omega)⟩⟩,qbk HX4.out.b (by omega) _⟩
   have hk:=HR3.out
   have hk2:RdK encE 10 w3.heap.size (w3.setCell ⟨w.heap.size,7,none⟩ (.slice A3 z.size c3)) A3 z:=hk.farG (g:=w.heap.size) (fun _ q hq=>by have:=HF3.out q hq;omega) (fun b hb=>Below.heap_setCell _ _ _ _ hb)
   have hk3:RdK encE 10 w3.heap.size ((w3.setCell ⟨w.heap.size,7,none⟩ (.slice A3 z.size c3)).setRow (w.heap.size + 1 + 1) (cs4 A3 c3)) A3 z:=hk2.farG (g:=w.heap.size + 1 + 1) (fun _ q hq=>by have:=HF3.out q hq;omega) (fun b hb=>setRow_other _ _ b _ hb)
   exact hk3.mono (by simp)
 have e4:(K != 0)=true:=bne_iff_ne.2 hK0
 clear hcs2
 rcases h4 with rfl | ⟨rfl,rfl⟩
 all_goals
  go_wp2_with (first | (go_at_call 66;refine (HSf.out _).mono ?_;rintro _ _ ⟨rfl,rfl⟩) | (go_at_call 15;refine (HC.out _ HX.out.b).mono ?_;rintro _ w1 ⟨rfl,hb⟩;have HX1:=hI (HX.out.next hb);have HF1:=hI (HE.out.next hb);have HZ1:=hI (HZ.out.next hb);clear hb x1 x2 d0;have x1:=HX1.out.box hsz;have x2:=HX1.out.rowAt;have c0:=HX1.out.at_ 0 HQ0.out;have d0:=HF1.out.at_ 0 HE0.out;have x3:=HZ1.out.box (n:=18) rfl) | (go_at_call 174;refine (HDD.out _ HX1.out.b).mono ?_;rintro _ w2 ⟨rfl,hb⟩;have HX2:=hI (HX1.out.next hb);have HF2:=hI (HF1.out.next hb);have HZ2:=hI (HZ1.out.next hb);clear hb x1 x2 d0 c0 x3;have x1:=HX2.out.box hsz;have x2:=HX2.out.rowAt;have x3:=HZ2.out.box (n:=18) rfl;have d1:=HF2.out.at_ 1 HE1.out;have c7:=HX2.out.at_ 7 HQ7.out;have y1:=HF2.out.box hs1;have y2:=HF2.out.rowAt) | (go_at_call 203;refine (HPP.out _ HX2.out.b).mono ?_;rintro _ w3 ⟨⟨A3,c3,rfl,hr3,hf3⟩,hb⟩;have HX3:=hI (HX2.out.next hb);have HZ3:=hI (HZ2.out.next hb);have HR3:=hI hr3;have HF3:Hid (FreshA w2.heap.size A3):=hf3;clear hb hr3 hf3 x1 x2 x3 c7 y1 y2 d1;have x1:=HX3.out.box hsz;have x2:=HX3.out.rowAt;have x3:=HZ3.out.box (n:=18) rfl))
  refine bodyPost_ret (qav rfl rfl (setRow_heap _ _ _ _ _ _ HZ3.out.row) hsz) rfl ?_
  exact HBD.out _ HCS.out K HK4.out hK0 _ _ HX3.out.b (by omega)
end Go.Proofs.YtlkmagmdhopcjaaGreat
namespace Go.Proofs.YtlkmagmdhopcjaaGreat
open Go.RowKit Go.Sort Go.Lib
set_option maxRecDepth 100000
theorem qwf:(Tryz.prog.info? 176).map (fun i=>(i.zero,i.size,i.bytes))=some (some (.agg #[.int .i64 0,.int .i64 0,.int .i64 0,.int .i64 0,.int .i64 0,.int .i64 0]),6,48):=by kernel_rfl
set_option maxHeartbeats 4000000 in
theorem CloneK (A:Option Addr) (c:Nat) (d:Array AK) (w:World) (h:RdK encK 6 w.heap.size w A d) (hd:d.size≤1000000) :
 Calls Tryz.prog 202 #[.slice A d.size c] w fun e w'=>∃ v,e=.returned v∧w'.ownsRow w.heap.size 176 6 v d.size (flatK encK 6 d).toList∧Below w.heap.size w w':=by
 obtain ⟨i0,hi0,hz0,hz1,hz2⟩:=info_parts qwf
 have q33:∀ (w:World) (a:Option Addr) (n c n' c':Nat),(binOp .eql 56 (.slice a n c) (.slice none n' c')).run Tryz.prog w=.ok (.bool a.isNone) w:=fun w a n c n' c'=>Lib.run_eql_slice_nil w _ _ a n c n' c' Tryz.underlying56
 cases A with
 | none =>
   have h0:d.size=0:=by
    rcases Nat.eq_zero_or_pos d.size with h0 | h0
    ·exact h0
    ·obtain ⟨b,off,e,_⟩:=h h0;cases e
   obtain rfl:d=#[]:=Array.eq_empty_of_size_eq_zero h0
   clear h h0 hd
   go_enter Tryz.func202,Tryz.ntmps202
   go_wp2
   go_ret
   exact ⟨_,rfl,qci _ _ _ _ _,Below.refl _ _⟩
 | some ad =>
   have HR:=hI h
   clear h
   go_enter Tryz.func202,Tryz.ntmps202
   go_wp2_with (at_builtin;refine qfg encK_1 qvt (by decide) rfl (.tmp 5) (.tmp 6) 56 rfl w.heap.size 176 i0 (.agg #[.int .i64 0,.int .i64 0,.int .i64 0,.int .i64 0,.int .i64 0,.int .i64 0]) 48 Tryz.underlying56 hi0 hz0 hz1 hz2 rfl _ #[] rfl (qcc w 176 encK 6) w.heap.size (some ad) c d rfl (HR.out.alloc (Nat.le_refl _) _) (fun h=>by cases h) (by simp;omega) (by decide) (by simp) ?_;intro v1 w1 hown1 hg1 _)
   go_ret
   have hb1:Below w.heap.size w w1:=(bel1 w _).grown hg1 (by simp) (fun k hk=>((qcc w 176 encK 6).lt k hk).1)
   exact ⟨v1,rfl,by simpa using hown1,hb1⟩
def qqg (e:EN) (a:AK):Bool:=qcp e && !qee e.ph && ackB a && decide (e.z.size < 27) && !hadN e.z e.z.size a
def AckO (e:EN) (a:AK) (w:World) (x:Ending) (w':World):Prop:=(∃ u:EN,x=.returned (.tuple #[.agg (encE u).toArray,.bool (qqg e a)])∧(qqg e a=false→u=e)∧(qqg e a=true→u={ e with A:=u.A,c:=u.c,z:=e.z.push a }∧RdK encK 6 w'.heap.size w' u.A u.z∧u.z.size≤u.c∧FreshA w.heap.size u.A))∧Below w.heap.size w w'
theorem ack_fold (a:AK):Array.foldl (fun (cs:Array Value) (x:Value×Nat)=>cs.setIfInBounds x.snd x.fst) #[.int .i64 0,.int .i64 0,.int .i64 0,.int .i64 0,.int .i64 0,.int .i64 0] (encK a).toArray.zipIdx 0 6=(encK a).toArray:=by kernel_rfl
theorem own_lower {w:World} {B B' s n:Nat} {e:TypeId} {v:Value} {xs:List Value} (h:w.ownsRow B e s v n xs) (hb:B'≤B):w.ownsRow B' e s v n xs :=
 ⟨h.1,h.2.imp id fun ⟨g,cap,cur,q1,q2,q3⟩=>⟨g,cap,cur,q1,Nat.le_trans hb q2,q3⟩⟩
theorem own_cap {w:World} {B s n n' c:Nat} {e:TypeId} {A:Option Addr} {xs:List Value} (h:w.ownsRow B e s (.slice A n' c) n xs):n≤c:=by
 obtain ⟨_,⟨h1,h0⟩ | ⟨g,cap,cur,hv,_,_,hc,_⟩⟩:=h
 ·omega
 ·cases hv;exact hc
structure AckW (w:World) (n:Nat) (e:EN) (a:AK) (W:World):Prop where
 pe:W.heap[n]?=some (.cells (encE e).toArray 58 (0,0))
 pa:W.heap[n + 1]?=some (.cells (encK a).toArray 176 (0,0))
 po:W.heap[n + 1 + 1]?=some (.cells zE 58 (0,0))
 b:Below w.heap.size w W
 wn:w.heap.size=n
theorem AckW.below {w W W':World} {n:Nat} {e:EN} {a:AK} (h:AckW w n e a W) (hb:Below W.heap.size W W'):AckW w n e a W' :=
 ⟨(hb.block _ (qal h.pe)).trans h.pe,(hb.block _ (qal h.pa)).trans h.pa,(hb.block _ (qal h.po)).trans h.po,qaa h.b hb,h.wn⟩
theorem ackW_init (w:World) (e:EN) (a:AK):AckW w w.heap.size e a (((w.alloc (.cells (encE e).toArray 58)).alloc (.cells (encK a).toArray 176)).alloc (.cells zE 58)) :=
 ⟨((bel1 ((w.alloc (.cells (encE e).toArray 58)).alloc (.cells (encK a).toArray 176)) _).block _ (by simp;omega)).trans (((bel1 (w.alloc (.cells (encE e).toArray 58)) _).block _ (by simp)).trans (heap_alloc_new w _)),
  ((bel1 ((w.alloc (.cells (encE e).toArray 58)).alloc (.cells (encK a).toArray 176)) _).block _ (by simp)).trans (heap_alloc2_new w _ _),heap_alloc_new ((w.alloc (.cells (encE e).toArray 58)).alloc (.cells (encK a).toArray 176)) (.cells zE 58) |> fun h=>by simpa using h,qab (qab (bel1 w _) _) _,rfl⟩
theorem qdw {fn:Func} {t u:Tmp} (hf:fn.results=#[.cell t 58,.tmp u]) {tm:Array Value} {W:World} {g:Nat} {cs:Array Value} {T:TypeId} (hg:tm.getD t undef=.pointer (some ⟨g,0,none⟩)) (h:W.heap[g]?=some (.cells cs T (0,0))) (hc:cs.size=10):(results fn tm).run Tryz.prog W=.ok (.tuple #[.agg cs,tm.getD u undef]) W:=by
 have hg2:tm[t]?.getD undef=.pointer (some ⟨g,0,none⟩):=by rw [←Array.getD_eq_getD_getElem?];exact hg
 have hl:(loadVar 58 ⟨g,0,none⟩).run Tryz.prog W=.ok (.agg cs) W:=run_loadVar_row W g T 58 cs (0,0) _ h Tryz.underlying58 rfl (by rw [hc];kernel_rfl)
 simp [results,hf,hg2,asAddr,hl]
theorem AckW.all {w W:World} {n:Nat} {e:EN} {a:AK} (h:AckW w n e a W):qap W n 10=true∧rowAt W n=(encE e).toArray∧qap W (n + 1) 6=true∧rowAt W (n + 1)=(encK a).toArray∧qap W (n + 1 + 1) 10=true∧W.cell? ⟨n,1,none⟩=some (.int .i64 e.ph)∧W.cell? ⟨n,9,none⟩=some (.slice e.A e.z.size e.c)∧W.frozen? ⟨n,9,none⟩=false :=
 ⟨qbl h.pe rfl,qcf h.pe,qbl h.pa rfl,qcf h.pa,qbl h.po rfl,qay h.pe 1 rfl,qay h.pe 9 rfl,qdd h.pe 9⟩
attribute [local go_sem ↓] qdk qed qnt
attribute [local go_sem] qgz qum qho
set_option maxHeartbeats 16000000 in
theorem ack_any (e:EN) (a:AK) (w:World) (hr:RdE w e) (hz:e.z.size≤e.c) :
 Calls Tryz.prog 134 #[.agg (encE e).toArray,.agg (encK a).toArray] w fun x w'=>AckO e a w x w':=by
 obtain ⟨j0,hj0,hy0,hy1,hy2⟩:=info_parts qwf
 have hmf:∀ (fn:Fn) (first cap:Array Value) (w:World),(Instr.makeFunc fn first cap).run Tryz.prog w=.ok (.func fn first cap) w:=fun _ _ _ _=>rfl
 have HOf:Hid (∀ W,Calls Tryz.prog 198 #[.agg (encK a).toArray] W fun x w'=>x=.returned (.agg #[.int .i64 a.kind,.int .i64 a.frm,.int .i64 a.bal])∧Below W.heap.size W w'):=fun W=>of_any a W
 have HAn:Hid (∀ W,Calls Tryz.prog 200 #[.agg (encK a).toArray] W fun x w'=>x=.returned (.bool (ackB a))∧Below W.heap.size W w'):=fun W=>qoj a W
 have HCk:Hid (∀ W,Below w.heap.size w W→Calls Tryz.prog 190 #[.agg (encE e).toArray] W fun x w'=>x=.returned (.int .i64 (enE e))∧Below W.heap.size W w'):=fun W hb=>qfe e W (hr.below hb) hz
 have HSt:Hid (∀ W,Calls Tryz.prog 144 #[.int .i64 e.ph] W fun x w'=>x=.returned (.bool (qee e.ph))∧W=w'):=fun W=>(qem e.ph W).mono fun _ _ h=>⟨h.1,h.2.symm⟩
 have HCo:Hid (∀ W,Below w.heap.size w W→Calls Tryz.prog 201 #[.slice e.A e.z.size e.c,.func (.func 199) #[.agg #[.int .i64 a.kind,.int .i64 a.frm,.int .i64 a.bal]] #[]] W fun x w'=>x=.returned (.bool (hadN e.z e.z.size a))∧Below W.heap.size W w'):=fun W hb=>qok e.A e.c e.z.size e.z a W ((hr.below hb).rd) (Nat.le_refl _) (by have:=hr.sz;omega)
 have HCl:Hid (∀ W,Below w.heap.size w W→Calls Tryz.prog 202 #[.slice e.A e.z.size e.c] W fun x w'=>∃ v,x=.returned v∧w'.ownsRow W.heap.size 176 6 v e.z.size (flatK encK 6 e.z).toList∧Below W.heap.size W w'):=fun W hb=>CloneK e.A e.c e.z W (hr.below hb).rd (by have:=hr.sz;omega)
 have HOK:Hid (qqg e a=(qcp e && !qee e.ph && ackB a && decide (e.z.size < 27) && !hadN e.z e.z.size a)):=rfl
 have HA0:Hid (AckW w w.heap.size e a (((w.alloc (.cells (encE e).toArray 58)).alloc (.cells (encK a).toArray 176)).alloc (.cells zE 58))):=ackW_init w e a
 have hsz:=hr.sz
 obtain ⟨ce,hce⟩:∃ x,(encE e).toArray=x:=⟨_,rfl⟩
 obtain ⟨ca,hca⟩:∃ x,(encK a).toArray=x:=⟨_,rfl⟩
 have HCE:=hI hce
 have HCA:=hI hca
 have hs1:ce.size=10:=by rw [←hce];rfl
 have ho1:qbt ce=true:=by rw [←hce];exact qep e
 have hs2:ca.size=6:=by rw [←hca];rfl
 rw [hce] at HCk HA0 ⊢
 rw [hca] at HOf HAn HA0 ⊢
 simp only [zE] at HA0
 clear hce hca
 obtain ⟨E,hE⟩:∃ E,enE e=E:=⟨_,rfl⟩
 have HEE:Hid (E=if qcp e=true then 0 else 2):=hE.symm
 obtain ⟨c,hch⟩:∃ c,qcp e=c:=⟨_,rfl⟩
 obtain ⟨S,hS⟩:∃ S,qee e.ph=S:=⟨_,rfl⟩
 obtain ⟨K,hK⟩:∃ K,ackB a=K:=⟨_,rfl⟩
 obtain ⟨H,hH⟩:∃ H,hadN e.z e.z.size a=H:=⟨_,rfl⟩
 obtain ⟨ok,hok⟩:∃ b,qqg e a=b:=⟨_,rfl⟩
 unfold AckO
 rw [hok]
 rw [hE] at HCk
 rw [hch] at HEE HOK
 rw [hS] at HSt HOK
 rw [hK] at HAn HOK
 rw [hH] at HCo HOK
 rw [hok] at HOK
 clear hE hch hS hK hH hok hr hz
 go_enter Tryz.func134,Tryz.ntmps134
 go_upto_region 1 with fail
 generalize ((w.alloc (.cells ce 58)).alloc (.cells ca 176)).alloc (.cells #[.int .i64 0,.int .i64 0,.int .i64 0,.int .i64 0,.int .i64 0,.int .i64 0,.int .i64 0,.int .i64 0,.string ⟨#[]⟩,.slice none 0 0] 58)=w1 at HA0 ⊢
 obtain ⟨n,hn⟩:∃ n,w.heap.size=n:=⟨_,rfl⟩
 have HN:=hI hn
 rw [hn] at HA0 ⊢
 clear hn
 obtain ⟨x1,x2,y1,y2,z1,e1,e9,f9⟩:=HA0.out.all
 rw [HCE.out] at x2
 rw [HCA.out] at y2
 go_upto_region 2 with (go_at_call 198;refine (HOf.out _).mono ?_;rintro _ w2 ⟨rfl,hb⟩;have HA2:=hI (HA0.out.below hb);clear hb;clear x1 x2 y1 y2 z1 e1 e9 f9;obtain ⟨x1,x2,y1,y2,z1,e1,e9,f9⟩:=HA2.out.all;rw [HCE.out] at x2;rw [HCA.out] at y2)
 cases c
 ·obtain rfl:E=2:=HEE.out
  obtain rfl:ok=false:=HOK.out.trans (by simp)
  clear HOK
  go_wp2_with (first | (go_at_call 190;refine (HCk.out _ HA2.out.b).mono ?_;rintro _ w3 ⟨rfl,hb⟩;have HA3:=hI (HA2.out.below hb);clear hb;clear x1 x2 y1 y2 z1 e1 e9 f9;obtain ⟨x1,x2,y1,y2,z1,e1,e9,f9⟩:=HA3.out.all;rw [HCE.out] at x2;rw [HCA.out] at y2))
  refine bodyPost_ret (qdw rfl rfl (setRow_heap _ _ _ _ _ _ HA3.out.po) hs1) rfl ?_
  exact ⟨by rw [HCE.out];rfl,qbk HA3.out.b (by have:=HN.out;omega) _⟩
 ·obtain rfl:E=0:=HEE.out
  cases S
  rotate_left
  ·obtain rfl:ok=false:=HOK.out.trans (by simp)
   clear HOK
   go_wp2_with (first | (go_at_call 190;refine (HCk.out _ HA2.out.b).mono ?_;rintro _ w3 ⟨rfl,hb⟩;have HA3:=hI (HA2.out.below hb);clear hb;clear x1 x2 y1 y2 z1 e1 e9 f9;obtain ⟨x1,x2,y1,y2,z1,e1,e9,f9⟩:=HA3.out.all;rw [HCE.out] at x2;rw [HCA.out] at y2) | (go_at_call 144;refine (HSt.out _).mono ?_;rintro _ _ ⟨rfl,rfl⟩))
   refine bodyPost_ret (qdw rfl rfl (setRow_heap _ _ _ _ _ _ HA3.out.po) hs1) rfl ?_
   exact ⟨by rw [HCE.out];rfl,qbk HA3.out.b (by have:=HN.out;omega) _⟩
  cases K
  ·obtain rfl:ok=false:=HOK.out.trans (by simp)
   clear HOK
   go_wp2_with (first | (go_at_call 190;refine (HCk.out _ HA2.out.b).mono ?_;rintro _ w3 ⟨rfl,hb⟩;have HA3:=hI (HA2.out.below hb);clear hb;clear x1 x2 y1 y2 z1 e1 e9 f9;obtain ⟨x1,x2,y1,y2,z1,e1,e9,f9⟩:=HA3.out.all;rw [HCE.out] at x2;rw [HCA.out] at y2) | (go_at_call 144;refine (HSt.out _).mono ?_;rintro _ _ ⟨rfl,rfl⟩) | (go_at_call 200;refine (HAn.out _).mono ?_;rintro _ w4 ⟨rfl,hb⟩;have HA4:=hI (HA3.out.below hb);clear hb;clear x1 x2 y1 y2 z1 e1 e9 f9;obtain ⟨x1,x2,y1,y2,z1,e1,e9,f9⟩:=HA4.out.all;rw [HCE.out] at x2;rw [HCA.out] at y2))
   refine bodyPost_ret (qdw rfl rfl (setRow_heap _ _ _ _ _ _ HA4.out.po) hs1) rfl ?_
   exact ⟨by rw [HCE.out];rfl,qbk HA4.out.b (by have:=HN.out;omega) _⟩
  by_cases hz27:e.z.size < 27
  rotate_left
  ·have hd1:decide ((27:Int)≤(e.z.size:Int))=true:=decide_eq_true (by omega)
   have hdec:decide (e.z.size < 27)=false:=decide_eq_false hz27
   obtain rfl:ok=false:=by have:=HOK.out;simpa [hdec] using this
   clear HOK
   go_wp2_with (first | (go_at_call 190;refine (HCk.out _ HA2.out.b).mono ?_;rintro _ w3 ⟨rfl,hb⟩;have HA3:=hI (HA2.out.below hb);clear hb;clear x1 x2 y1 y2 z1 e1 e9 f9;obtain ⟨x1,x2,y1,y2,z1,e1,e9,f9⟩:=HA3.out.all;rw [HCE.out] at x2;rw [HCA.out] at y2) | (go_at_call 144;refine (HSt.out _).mono ?_;rintro _ _ ⟨rfl,rfl⟩) | (go_at_call 200;refine (HAn.out _).mono ?_;rintro _ w4 ⟨rfl,hb⟩;have HA4:=hI (HA3.out.below hb);clear hb;clear x1 x2 y1 y2 z1 e1 e9 f9;obtain ⟨x1,x2,y1,y2,z1,e1,e9,f9⟩:=HA4.out.all;rw [HCE.out] at x2;rw [HCA.out] at y2))
   refine bodyPost_ret (qdw rfl rfl (setRow_heap _ _ _ _ _ _ HA4.out.po) hs1) rfl ?_
   exact ⟨by rw [HCE.out];rfl,qbk HA4.out.b (by have:=HN.out;omega) _⟩
  have hd1:decide ((27:Int)≤(e.z.size:Int))=false:=decide_eq_false (by omega)
  have hdec:decide (e.z.size < 27)=true:=decide_eq_true hz27
  cases H
  rotate_left
  ·obtain rfl:ok=false:=by have:=HOK.out;simpa [hdec] using this
   clear HOK
   go_wp2_with (first | (go_at_call 190;refine (HCk.out _ HA2.out.b).mono ?_;rintro _ w3 ⟨rfl,hb⟩;have HA3:=hI (HA2.out.below hb);clear hb;clear x1 x2 y1 y2 z1 e1 e9 f9;obtain ⟨x1,x2,y1,y2,z1,e1,e9,f9⟩:=HA3.out.all;rw [HCE.out] at x2;rw [HCA.out] at y2) | (go_at_call 144;refine (HSt.out _).mono ?_;rintro _ _ ⟨rfl,rfl⟩) | (go_at_call 200;refine (HAn.out _).mono ?_;rintro _ w4 ⟨rfl,hb⟩;have HA4:=hI (HA3.out.below hb);clear hb;clear x1 x2 y1 y2 z1 e1 e9 f9;obtain ⟨x1,x2,y1,y2,z1,e1,e9,f9⟩:=HA4.out.all;rw [HCE.out] at x2;rw [HCA.out] at y2) | (go_at_call 201;refine (HCo.out _ HA4.out.b).mono ?_;rintro _ w5 ⟨rfl,hb⟩;have HA5:=hI (HA4.out.below hb);clear hb;clear x1 x2 y1 y2 z1 e1 e9 f9;obtain ⟨x1,x2,y1,y2,z1,e1,e9,f9⟩:=HA5.out.all;rw [HCE.out] at x2;rw [HCA.out] at y2))
   refine bodyPost_ret (qdw rfl rfl (setRow_heap _ _ _ _ _ _ HA5.out.po) hs1) rfl ?_
   exact ⟨by rw [HCE.out];rfl,qbk HA5.out.b (by have:=HN.out;omega) _⟩
  have HFL:Hid ((flatK encK 6 (e.z.push a)).toList=(flatK encK 6 e.z).toList ++ encK a):=qbm (enc:=encK) (k:=6) (fun _=>rfl) e.z a
  obtain rfl:ok=true:=by have:=HOK.out;simpa [hdec] using this
  clear HOK
  go_upto_region 4 with (first | (go_at_call 190;refine (HCk.out _ HA2.out.b).mono ?_;rintro _ w3 ⟨rfl,hb⟩;have HA3:=hI (HA2.out.below hb);clear hb;clear x1 x2 y1 y2 z1 e1 e9 f9;obtain ⟨x1,x2,y1,y2,z1,e1,e9,f9⟩:=HA3.out.all;rw [HCE.out] at x2;rw [HCA.out] at y2) | (go_at_call 144;refine (HSt.out _).mono ?_;rintro _ _ ⟨rfl,rfl⟩) | (go_at_call 200;refine (HAn.out _).mono ?_;rintro _ w4 ⟨rfl,hb⟩;have HA4:=hI (HA3.out.below hb);clear hb;clear x1 x2 y1 y2 z1 e1 e9 f9;obtain ⟨x1,x2,y1,y2,z1,e1,e9,f9⟩:=HA4.out.all;rw [HCE.out] at x2;rw [HCA.out] at y2) | (go_at_call 201;refine (HCo.out _ HA4.out.b).mono ?_;rintro _ w5 ⟨rfl,hb⟩;have HA5:=hI (HA4.out.below hb);clear hb;clear x1 x2 y1 y2 z1 e1 e9 f9;obtain ⟨x1,x2,y1,y2,z1,e1,e9,f9⟩:=HA5.out.all;rw [HCE.out] at x2;rw [HCA.out] at y2))
  clear x1 x2 z1
  have HBF:Array.foldl (fun (cs:Array Value) (x:Value×Nat)=>cs.setIfInBounds x.snd x.fst) #[.int .i64 0,.int .i64 0,.int .i64 0,.int .i64 0,.int .i64 0,.int .i64 0] ca.zipIdx 0 6=ca:=by rw [←HCA.out];exact ack_fold a
  have hcl:ca.toList=encK a:=by rw [←HCA.out]
  have hca1:∀ u ∈ ca.toList,u.oneCell'=true:=by rw [hcl];exact encK_1 a
  have hcl6:ca.toList.length=6:=by rw [hcl];rfl
  have HCM:Hid (∀ W,Below w5.heap.size w5 W→Calls Tryz.prog 202 #[.slice e.A e.z.size e.c] W fun x w'=>∃ v,x=.returned v∧w'.ownsRow w5.heap.size 176 6 v e.z.size (flatK encK 6 e.z).toList∧Below w5.heap.size w5 w'∧∀ k o,W.heap[k]?=some o→w'.heap[k]?=some o):=fun W hb=>(HCl.out W (qaa HA5.out.b hb)).mono fun _ w6 ⟨v,h1,h2,h3⟩=>⟨v,h1,own_lower h2 hb.size,qaa hb h3,fun k o hk=>(h3.block k (qal hk)).trans hk⟩
  have y3:qap w5.drew (n + 1) 6=true:=y1
  have y4:rowAt w5.drew (n + 1)=ca:=y2
  have hn5:n < w5.heap.size:=qal HA5.out.pe
  go_region_law (first
   | (go_simp;go_at_call 202
      refine (HCM.out _ (by first | exact Below.refl _ _ | exact (Below.refl _ _).drew | exact bel1 w5 _ | exact qab (Below.refl _ _).drew _ | exact (bel1 w5 _).drew)).mono ?_
      rintro _ w6 ⟨v6,rfl,ho6,hb6,hk6⟩
      have HO6:=hI ho6
      have HB6:=hI hb6
      first
       | have HNW:Hid (w6.heap[w5.heap.size]?=some (.cells ca 176 (0,0))):=hk6 _ _ (by first | exact heap_alloc_new w5 _ | exact heap_alloc_new w5.drew _)
       | skip
      have HA6:=hI (HA5.out.below HB6.out)
      clear y1 y2 y3 y4 e1 e9 f9 hn5 ho6 hb6 hk6
      obtain ⟨x1,x2,y1,y2,z1,e1,e9,f9⟩:=HA6.out.all
      rw [HCA.out] at y2)
   | (refine qml (by rfl) _ _ _ (by rfl) w5 176 j0 _ 6 48 Tryz.underlying56 hj0 hy0 hy1 hy2 rfl (by decide) v6 e.z.size (flatK encK 6 e.z).toList (by rfl) (by first | exact HO6.out | exact HO6.out.alloc _) _ 1 1 ca.toList (by rfl) hcl6 (by first | exact World.news_of_block HNW.out | exact World.news_of_block (heap_alloc_new w6 _)) hca1 (by unfold maxLen;omega) (by omega) (by first | exact HB6.out | exact qab HB6.out _) ?_
      intro v7 w7 hown7 hgrow7 hBw7
      have HA7:=hI (HA5.out.below hBw7)
      have HO7:Hid (w7.ownsRow w5.heap.size 176 6 v7 (e.z.push a).size (flatK encK 6 (e.z.push a)).toList):=(by show w7.ownsRow _ _ _ _ _ _;rw [HFL.out,Array.size_push,←hcl];exact hown7)
      clear x1 x2 y1 y2 z1 e1 e9 f9 hown7 hgrow7 hBw7
      obtain ⟨A7,c7,rfl,hr7,hn7,hf7⟩:=qdj HO7.out
      have HR7:=hI hr7
      have HF7:=hI hf7
      clear hr7 hn7 hf7
      obtain ⟨x1,x2,y1,y2,z1,e1,e9,f9⟩:=HA7.out.all))
  all_goals
   clear x1 x2 y1 y2 z1 e1 e9 f9
   have hnw:=HN.out
   have h5:n + 1 + 1 < w5.heap.size:=qal HA5.out.po
   have hc7:e.z.size + 1≤c7:=by simpa using own_cap HO7.out
   obtain ⟨ce2,hce2⟩:∃ x,(encE { e with A:=A7,c:=c7,z:=e.z.push a }).toArray=x:=⟨_,rfl⟩
   have hq1:ce2.size=10:=by rw [←hce2];rfl
   have hq2:qbt ce2=true:=by rw [←hce2];exact qep _
   have hset:ce.setIfInBounds 9 (.slice A7 (e.z.size + 1) c7)=ce2:=by rw [←hce2,←HCE.out];simp [encE]
   obtain ⟨W8,hW8⟩:∃ W,W=w7.setCell ⟨n,9,none⟩ (.slice A7 (e.z.size + 1) c7):=⟨_,rfl⟩
   have HE8:Hid (W8.heap[n]?=some (.cells ce2 58 (0,0))):=by
    show _=_
    rw [hW8,←hset,←HCE.out]
    exact qfr HA7.out.pe 9 _
   have HZ8:Hid (W8.heap[n + 1 + 1]?=some (.cells zE 58 (0,0))):=by
    show _=_
    rw [hW8]
    exact (Below.heap_setCell _ _ _ _ (by show n + 1 + 1≠n;omega)).trans HA7.out.po
   have HB8:Hid (Below w.heap.size w W8):=by
    show Below _ _ _
    rw [hW8]
    exact HA7.out.b.setCell (p:=⟨n,9,none⟩) (by show w.heap.size≤n;omega) _
   have HR8:Hid (RdK encK 6 w7.heap.size (W8.setRow (n + 1 + 1) ce2) A7 (e.z.push a)):=by
    show RdK _ _ _ _ _ _
    refine (HR7.out.farG (g:=n) (W:=W8) (fun _ p hp=>?_) (fun b hb=>?_)).farG (g:=n + 1 + 1) (fun _ p hp=>?_) (fun b hb=>setRow_other _ _ b _ hb)
    ·have:=HF7.out p hp;omega
    ·rw [hW8];exact Below.heap_setCell _ _ _ _ hb
    ·have:=HF7.out p hp;omega
   have hs8:W8.heap.size=w7.heap.size:=by rw [hW8];simp
   rw [←hW8]
   clear hW8 hnw
   have x1:=qbl HE8.out hq1
   have x2:=qcf HE8.out
   have z1:=qbl HZ8.out (n:=10) rfl
   go_wp2
   refine bodyPost_ret (qdw rfl rfl (setRow_heap _ _ _ _ _ _ HZ8.out) hq1) rfl ?_
   refine ⟨⟨{ e with A:=A7,c:=c7,z:=e.z.push a },by rw [hce2];rfl,rfl,?_,?_,?_⟩,qbk HB8.out (by have:=HN.out;omega) _⟩
   ·rw [show (W8.setRow (n + 1 + 1) ce2).heap.size=w7.heap.size by simp [hs8]];exact HR8.out
   ·simpa using hc7
   ·exact FreshA.mono (fun q hq=>HF7.out q hq) (by have:=HA5.out.b.size;omega)
end Go.Proofs.YtlkmagmdhopcjaaGreat
namespace Go.Proofs.YtlkmagmdhopcjaaGreat
open Go.RowKit Go.Sort Go.Lib
set_option maxRecDepth 100000
attribute [local go_sem ↓] qak qai
attribute [local go_sem] qao qaj qah qaq qbd
structure KbR (r:RP) (p:Nat) (kb:Array KE):Prop where
 sz:kb.size=r.k.z.size
 oth:∀ i,i < r.k.z.size→i≠p→kb[i]! = r.k.z[i]!
 me:AddR r.k.z[p]!.kn r.floor r.clock r.o.z kb[p]!.kn
 ml:kb[p]!.r.z.size≤r.k.z[p]!.r.z.size + r.k.z[p]!.a.z.size + r.o.z.size + 1
theorem KbR.chk {r:RP} {p:Nat} {kb:Array KE} (h:KbR r p kb) (hc:chkR r=true) (hf:FewM r) (hs:r.self=(p:Int) + 1) (hp:p < r.k.z.size):∀ i,i < r.k.z.size→ChkP kb[i]!.kn∧kb[i]!.r.z.size≤500∧kb[i]!.a.z.size≤400:=by
 intro i hi
 by_cases hip:i=p
 ·subst hip
  have h1:=hf.s i hi (by rw [hs])
  have h2:=hf.o
  have hg:=qpp (qqf (qdp.1 (qhl hc i hi)) (qfc hc)) h.me (by show r.k.z[i]!.a.z.size + r.o.z.size≤400;omega)
  have h3:=hg.2.2.1
  have h4:=h.ml
  refine ⟨hg.1,by omega,?_⟩
  have h5:kb[i]!.a.z.size≤r.k.z[i]!.a.z.size + r.o.z.size:=h3
  omega
 ·rw [h.oth i hi hip]
  have:=hf.k i hi
  exact ⟨qdp.1 (qhl hc i hi),by omega,by omega⟩
structure KsR (r:RP) (kb ks:Array KE) (k:Nat):Prop where
 sz:ks.size=kb.size
 lo:∀ i,i < k→i < kb.size→(∃ ids,qns r kb[i]!.kn ids∧SetR kb[i]!.kn ids ks[i]!.kn)∧ks[i]!.r.z.size≤1000∧ks[i]!.a.z.size≤400
 hi:∀ i,k≤i→i < kb.size→ks[i]! = kb[i]!
theorem KsR.few {r:RP} {p:Nat} {kb ks:Array KE} {k K cK:Nat} (h:KsR r kb ks k) (hb:KbR r p kb) (hc:chkR r=true) (hf:FewM r) (hs:r.self=(p:Int) + 1) (hp:p < r.k.z.size):FewC (kR r K cK ks):=by
 have f:=hf.c
 refine ⟨f.es,f.ee,f.o,?_,f.m,f.mm,f.fr,f.d,f.dd,?_⟩
 ·show ks.size≤20
  rw [h.sz,hb.sz]
  exact f.k
 ·intro i hi
  have hi':i < ks.size:=hi
  rw [h.sz] at hi'
  show ks[i]!.r.z.size≤1000∧ks[i]!.a.z.size≤1000
  rcases Nat.lt_or_ge i k with hk | hk
  ·have:=(h.lo i hk hi').2
   omega
  ·rw [h.hi i hk hi']
   have:=hb.chk hc hf hs hp i (by rw [←hb.sz];exact hi')
   omega
theorem KsR.put {r:RP} {kb ks:Array KE} {k:Nat} {x:KE} {ids:Array Int} (h:KsR r kb ks k) (hk:k < kb.size) (ho:qns r kb[k]!.kn ids) (hx:SetR kb[k]!.kn ids x.kn) (h1:x.r.z.size≤1000) (h2:x.a.z.size≤400):KsR r kb (ks.setIfInBounds k x) (k + 1):=by
 have hne:∀ i,i≠k→(ks.setIfInBounds k x)[i]! = ks[i]!:=fun i hi=>by
  rw [getElem!_def,getElem!_def,Array.getElem?_setIfInBounds,if_neg (Ne.symm hi)]
 refine ⟨by simpa using h.sz,fun i hi hs=>?_,fun i hi hs=>by rw [hne i (by omega)];exact h.hi i (by omega) hs⟩
 by_cases hik:i=k
 ·subst hik
  rw [getElem!_set_same ks i x (by rw [h.sz];exact hk)]
  exact ⟨⟨ids,ho,hx⟩,h1,h2⟩
 ·rw [hne i hik]
  exact h.lo i (by omega) hs
theorem KsR.chk {r:RP} {p:Nat} {kb ks:Array KE} (h:KsR r kb ks r.k.z.size) (hb:KbR r p kb) (hc:chkR r=true) (hf:FewM r) (hs:r.self=(p:Int) + 1) (hp:p < r.k.z.size):∀ i,i < r.k.z.size→chkB ks[i]!.kn=true:=by
 intro i hi
 obtain ⟨⟨ids,_,hset⟩,_⟩:=h.lo i hi (by rw [hb.sz];exact hi)
 exact qdp.2 (qvf (hb.chk hc hf hs hp i hi).1 hset).1
theorem chk_kR {r:RP} {K cK:Nat} {ks:Array KE} (hc:chkR r=true) (hs:ks.size=r.k.z.size) (hk:∀ i,i < r.k.z.size→chkB ks[i]!.kn=true):chkR (kR r K cK ks)=true:=by
 obtain ⟨⟨a1,a2,a3,a4,a5,a6,a7,a8,a9,a10,a11,a12,a13,a14,a15⟩,hB,hC⟩:=(qbi r).1 hc
 refine (qbi (kR r K cK ks)).2 ⟨⟨a1,a2,a3,a4,a5,a6,a7,a8,a9,a10,a11,?_,a13,a14,a15⟩,⟨hB.1,fun i hi=>⟨if_pos (hk i ?_),(hB.2 i ?_).2⟩⟩,hC⟩
 ·show (ks.size:Int)=r.n
  rw [hs];exact a12
 ·have hi':i < ks.size:=hi
  omega
 ·have hi':i < ks.size:=hi
  omega
theorem set_few {k s:KN} {ids:Array Int} (h:ChkP k) (hs:SetR k ids s):s.rs.size≤1000∧s.ats.size≤400:=by
 obtain ⟨l,_,l2,l3⟩:=hs.ok h
 exact ⟨Nat.le_trans l3.sz l2,l3.chk.sz⟩
def RdQ (w W:World) (r rp:RP):Prop:=∀ W',RdP W' r→(∀ j,w.heap.size + 2≤j→j < W.heap.size→W'.heap[j]?=W.heap[j]?)→W.heap.size≤W'.heap.size→RdP W' rp
section
variable {w W W2:World} {rp r:RP}
theorem RdQ.rd (h:RdQ w W r rp) (hr:RdP W r):RdP W rp:=h W hr (fun _ _ _=>rfl) (Nat.le_refl _)
theorem RdQ.next (h:RdQ w W r rp) (hb:Below W.heap.size W W2):RdQ w W2 r rp:=fun W' h1 h2 h3 =>
 h W' h1 (fun j hj hl=>(h2 j hj (Nat.lt_of_lt_of_le hl hb.size)).trans (hb.block j hl)) (Nat.le_trans hb.size h3)
theorem RdQ.box (h:RdQ w W r rp) (ho:∀ j,w.heap.size + 2≤j→W2.heap[j]?=W.heap[j]?) (hs:W2.heap.size=W.heap.size):RdQ w W2 r rp:=fun W' h1 h2 h3 =>
 h W' h1 (fun j hj hl=>(h2 j hj (by omega)).trans (ho j hj)) (by omega)
theorem RdQ.self (w W:World) (r:RP):RdQ w W r r:=fun _ h _ _=>h
theorem RdQ.sep (h:RdQ w W r rp) (hB:W2.heap.size=W.heap.size) (ho:∀ j,w.heap.size + 2≤j→j < W.heap.size→W2.heap[j]?=W.heap[j]?):SepR r w.heap.size W2 rp:=fun W' h1 h2 h3 =>
 h W' h1 (fun j hj hl=>(h2 j (by omega) (by omega)).trans (ho j hj hl)) (by omega)
theorem RefW.q {K cK:Nat} {ks:Array KE} (h:RefW w r K cK ks W) (hn:∀ i,i < ks.size→FarN w ks[i]!):RdQ w W r (kR r K cK ks):=fun W' g h2 h3=>by
 have hrk:RdW qaz 3 W' ⟨some ⟨K,0,none⟩,cK,ks⟩:=by
  obtain ⟨x,e,hz,hx⟩:=qdq (qdz (W:=W') h.own (Nat.le_refl _) h2)
  have:x=⟨some ⟨K,0,none⟩,cK,ks⟩:=by
   obtain ⟨xA,xc,xz⟩:=x
   have hz':xz=ks:=hz
   subst hz'
   unfold RW.v at e
   injection e with q1 q2 q3
   subst q1 q3
   rfl
  rw [←this]
  exact hx
 refine ⟨g.e,g.o,hrk,fun i hi=>?_,g.m,g.mm,g.fr,g.d,g.dd,g.it,g.ss⟩
 have hi':i < ks.size:=hi
 exact RdKE.apartN (h.kk i hi') (hn i hi') h2 h3
theorem RdQ.setM (h:RdQ w W r rp) {B:Nat} {y:RW (RW Int)} (hy:OwnMM B W y) (hB:w.heap.size + 2≤B):RdQ w W r { rp with m:=y }:=fun W' h1 h2 h3=>by
 have g:=h W' h1 h2 h3
 have m:=hy W' (fun j hj hl=>h2 j (by omega) hl) h3
 exact ⟨g.e,g.o,g.k,g.kk,m.1,m.2,g.fr,g.d,g.dd,g.it,g.ss⟩
theorem RdQ.setF (h:RdQ w W r rp) (f:Int):RdQ w W r { rp with floor:=f }:=fun W' h1 h2 h3=>by
 have g:=h W' h1 h2 h3
 exact ⟨g.e,g.o,g.k,g.kk,g.m,g.mm,g.fr,g.d,g.dd,g.it,g.ss⟩
theorem RdQ.setO (h:RdQ w W r rp) {y:RW (Int×Int)} (hy:RdN qaf 2 W y) (hf:∀ g off,y.A=some ⟨g,off,none⟩→w.heap.size + 2≤g):RdQ w W r { rp with o:=y }:=fun W' h1 h2 h3=>by
 have g:=h W' h1 h2 h3
 refine ⟨g.e,⟨fun h0=>?_,hy.no⟩,g.k,g.kk,g.m,g.mm,g.fr,g.d,g.dd,g.it,g.ss⟩
 obtain ⟨b,off,e,hlt,hc⟩:=hy.rd h0
 exact ⟨b,off,e,Nat.lt_of_lt_of_le hlt h3,fun t ht=>(World.cell?_of_block (w:=W) (a:=⟨b,off + t,none⟩) (h2 b (hf b off e) hlt)).trans (hc t ht)⟩
end
theorem tell_rows {m:Array (RW Int)} {n:Int} {p:Nat} {x:Array Int} {y:Array (RW Int)} (hm:qfk m n=true) (hx:qas x n=0) (h:qyx m p x y):qfk y n=true:=by
 obtain ⟨a,b,c⟩:=qbv.1 hm
 refine qbv.2 ⟨a,by rw [h.1];exact b,fun i hi=>?_⟩
 rw [h.1] at hi
 rw [h.2 i hi]
 split
 ·exact hx
 ·exact c i hi
end Go.Proofs.YtlkmagmdhopcjaaGreat
namespace Go.Proofs.YtlkmagmdhopcjaaGreat
open Go.RowKit Go.Sort Go.Lib
set_option maxRecDepth 100000
attribute [local go_sem ↓] qak qai
attribute [local go_sem] qao qaj qah qaq qbd
def AddP (r:RP) (p:Nat) (x:KE):Prop:=AddR r.k.z[p]!.kn r.floor r.clock r.o.z x.kn∧x.r.z.size≤r.k.z[p]!.r.z.size + r.k.z[p]!.a.z.size + r.o.z.size + 1
theorem far3 (W:World) (g:Nat) (v0 v1 v2:Value) (b t:Nat) (h:b≠g∨t < 0 * 3∨0 * 3 + 3≤t):(((W.setCell ⟨g,0,none⟩ v0).setCell ⟨g,1,none⟩ v1).setCell ⟨g,2,none⟩ v2).cell? ⟨b,t,none⟩=W.cell? ⟨b,t,none⟩:=by
 have far:∀ (V:World) (j:Nat) (v:Value),(⟨g,j,none⟩:Addr)≠⟨b,t,none⟩→(V.setCell ⟨g,j,none⟩ v).cell? ⟨b,t,none⟩=V.cell? ⟨b,t,none⟩:=fun V j v hne=>World.cell?_setCell_other V _ _ v hne
 rw [far _ _ _ (by intro e;injection e with e1 e2;omega),far _ _ _ (by intro e;injection e with e1 e2;omega),far _ _ _ (by intro e;injection e with e1 e2;omega)]
theorem qwg {W:World} {g:Nat} {T:TypeId} (hq:W.heap[g]?=some (.cells #[.int .i64 0,.slice none 0 0,.slice none 0 0] T (0,0))) {x:KE} (hx:RdKE W x) (v0 v1 v2:Value):RdKE (((W.setCell ⟨g,0,none⟩ v0).setCell ⟨g,1,none⟩ v1).setCell ⟨g,2,none⟩ v2) x:=by
 have hsz:(((W.setCell ⟨g,0,none⟩ v0).setCell ⟨g,1,none⟩ v1).setCell ⟨g,2,none⟩ v2).heap.size=W.heap.size:=by simp
 have hH:∀ t,t < (#[ke0]:Array KE).size * 3→W.cell? ⟨g,t,none⟩=some (flatK qaz 3 #[ke0])[t]!:=fun t ht=>by
  have ht3:t < 3:=by simpa using ht
  rw [cell_of_row W g t _ _ (0,0) hq,get_flatK _ _ _ _ ht]
  rcases (show t=0∨t=1∨t=2 by omega) with rfl | rfl | rfl <;> rfl
 exact ⟨⟨by rw [hsz];exact qfj qnb hH hx.r.rd (i:=0) (by decide) (far3 W g v0 v1 v2),hx.r.no⟩,⟨by rw [hsz];exact qfj qnc hH hx.a.rd (i:=0) (by decide) (far3 W g v0 v1 v2),hx.a.no⟩⟩
theorem box_set {W:World} {g:Nat} {T:TypeId} (hq:W.heap[g]?=some (.cells #[.int .i64 0,.slice none 0 0,.slice none 0 0] T (0,0))) (v0 v1 v2:Value):(((W.setCell ⟨g,0,none⟩ v0).setCell ⟨g,1,none⟩ v1).setCell ⟨g,2,none⟩ v2).heap[g]?=some (.cells #[v0,v1,v2] T (0,0)) :=
 heap_setCell_same _ g 2 _ T v2 (heap_setCell_same _ g 1 _ T v1 (heap_setCell_same W g 0 _ T v0 hq))
set_option maxHeartbeats 16000000 in
theorem qon (r:RP) (w:World) (h:RdP w r) (hf:FewM r) (hc:chkR r=true) :
 Calls Tryz.prog 35 #[.agg (encP r).toArray] w fun e w'=>(∃ s:RP,e=.returned (.agg (encP s).toArray)∧RefR r s∧SepR r w.heap.size w' s)∧Below w.heap.size w w':=by
 have hkn:=qhk hc
 obtain ⟨p,hp⟩:∃ p:Nat,r.self=(p:Int) + 1:=⟨r.self.toNat - 1,by have:=(qet hc).2;omega⟩
 have hpk:p < r.k.z.size:=by have:=(qet hc).2;omega
 have hk20:=hf.c.k
 have HC:Hid (∀ W,Below w.heap.size w W→Calls Tryz.prog 15 #[.agg (encP r).toArray] W fun e w'=>e=.returned (.int .i64 0)∧Below W.heap.size W w'):=fun W hb=>by
  have:=qbh r W (h.below hb) hf.c
  rwa [qcw hc] at this
 obtain ⟨bk,ok,hA,_,_⟩:=h.k.rd.at_ (i:=p) hpk
 have HCl:Hid (∀ W,Below w.heap.size w W→Calls Tryz.prog 33 #[.slice r.k.A r.k.z.size r.k.c] W fun e w'=>∃ g c,e=.returned (.slice (some ⟨g,0,none⟩) r.k.z.size c)∧W.heap.size≤g∧w'.ownsRow W.heap.size 66 3 (.slice (some ⟨g,0,none⟩) r.k.z.size c) r.k.z.size (flatK qaz 3 r.k.z).toList∧Below W.heap.size W w'):=fun W hb=>by
  have h1:=(h.k.below hb).rd
  have hA':r.k.A=some ⟨bk,ok,none⟩:=hA
  rw [hA'] at h1 ⊢
  refine (CloneKn ⟨bk,ok,none⟩ r.k.c r.k.z W h1 (by omega)).mono fun e w' ⟨v,he,ho,hb2⟩=>?_
  obtain ⟨g,c,rfl,hg,hl⟩:=qqh ho (by omega)
  exact ⟨g,c,he,hg,ho,hb2⟩
 have HAdd:Hid (∀ W,Below w.heap.size w W→w.heap.size + 2≤W.heap.size→Calls Tryz.prog 30 #[.agg (qaz r.k.z[p]!).toArray,.int .i64 r.floor,.int .i64 r.clock,.slice r.o.A r.o.z.size r.o.c] W fun e w'=>∃ x:KE,e=.returned (.tuple #[.agg (qaz x).toArray,.int .i64 0])∧AddP r p x∧RdKE w' x∧FarK w x∧Below W.heap.size W w'):=fun W hb hsW=>by
  have h1:=hf.s p hpk (by rw [hp])
  have h2:=hf.o
  have hku:=(h.kk p hpk).below hb
  refine (quz r.k.z[p]!.base r.k.z[p]!.r.z r.k.z[p]!.a.z r.k.z[p]!.r.A r.k.z[p]!.r.c r.k.z[p]!.a.A r.k.z[p]!.a.c r.floor r.clock r.o.z r.o.A r.o.c W hku.r.rd hku.a.rd (h.o.below hb).rd (qqf (qdp.1 (qhl hc p hpk)) (qfc hc)) (by omega) (by omega) (by omega)).mono fun e w' ⟨v,kn,he,hv,ha,hsz,hb2⟩=>?_
  obtain ⟨x,rfl,rfl,hx,f1,f2⟩:=keOfF hv
  exact ⟨x,he,⟨ha,hsz⟩,hx,FarK.new hsW f1 f2,hb2⟩
 have HRD:=hI h
 have HFM:=hI hf
 have HCK:=hI hc
 obtain ⟨cs,hcs⟩:∃ cs,cs=(encP r).toArray:=⟨_,rfl⟩
 obtain ⟨hsz,hone⟩:=rowP hcs
 have HCS:=hI hcs
 have HQ9:Hid (cs[9]?=some (.slice r.k.A r.k.z.size r.k.c)):=by show _=_;rw [hcs];rfl
 have HP:=hI hp
 have HKN:=hI hkn
 have hwr:IntKind.i64.wrap (p:Int)=(p:Int):=IntWalk.i64_in _ (by omega)
 have hpz:(p:Int) < (r.k.z.size:Int):=by omega
 rw [←hcs] at HC
 have hgoal:∀ x:Array Value,cs=x→Calls Tryz.prog 35 #[.agg x] w fun e w'=>(∃ s:RP,e=.returned (.agg (encP s).toArray)∧RefR r s∧SepR r w.heap.size w' s)∧Below w.heap.size w w':=by
  rintro _ rfl
  simp only [encP] at hcs
  clear h hf hc hp hA hkn
  rw [hcs]
  go_enter Tryz.func35,Tryz.ntmps35
  rw [←hcs]
  clear hcs
  have HX:=hI (BoxG.fst w cs qbp 35 35)
  have HZ:=hI (BoxG.snd w cs qbp 35 35)
  simp only [qbp] at HX HZ
  have x1:=HX.out.box hsz
  have x2:=HX.out.rowAt
  go_wp2_with (first
   | (go_at_call 15;refine (HC.out _ HX.out.b).mono ?_;rintro _ w1 ⟨rfl,hb⟩;have HX1:=hI (HX.out.next hb);have HZ1:=hI (HZ.out.next hb);clear hb x1 x2;have c9:=HX1.out.at_ 9 HQ9.out)
   | (go_at_call 33;refine (HCl.out _ HX1.out.b).mono ?_;rintro _ w2 ⟨K,cK,rfl,hK1,hown,hb⟩;have HX2:=hI (HX1.out.next hb);have HZ2:=hI (HZ1.out.next hb);have HO2:=hI hown;have HXl:=HX1.out.lt;have HZl:=HZ1.out.lt;have HBB:=hI hb;clear hb c9 hown;have c9:=HX2.out.at_ 9 HQ9.out;have f9:=HX2.out.froz 9))
  have HW:Hid (RefW w r K cK r.k.z (w2.setCell ⟨w.heap.size,9,none⟩ (.slice (some ⟨K,0,none⟩) r.k.z.size cK))):=by
   have hx:=HX2.out.set (Nat.le_refl _) 9 (.slice (some ⟨K,0,none⟩) r.k.z.size cK)
   have hset:cs.setIfInBounds 9 (.slice (some ⟨K,0,none⟩) r.k.z.size cK)=(encP (kR r K cK r.k.z)).toArray:=by rw [HCS.out];rfl
   rw [hset] at hx
   exact ⟨hx,HZ2.out.far (g2:=w.heap.size) (Nat.le_refl _) (by omega) 9 _,qdh (qcx HO2.out HXl 9 _) (by omega),fun i hi=>((HRD.out.kk i hi).below hx.b),fun i hi=>FarK.old (HRD.out.kk i hi)⟩
  obtain ⟨w3,hw3⟩:∃ W,W=w2.setCell ⟨w.heap.size,9,none⟩ (.slice (some ⟨K,0,none⟩) r.k.z.size cK):=⟨_,rfl⟩
  rw [←hw3] at HW ⊢
  clear hw3 c9 f9 HX HZ HX1 HZ1 HX2 HZ2 HO2 HBB HXl HZl hK1 HQ9 HC HCl
  go_cut [3,4] from 17 to 33 (fun v3 v4 wx=>∃ (g:Nat) (x:KE),v3=.pointer (some ⟨g,0,none⟩)∧v4=.int .i64 0∧Hid (AddP r p x)∧Hid (FarK w x)∧Hid (RdKE wx x)∧Hid (wx.heap[g]?=some (.cells (qaz x).toArray 66 (0,0)))∧Hid (w.heap.size + 2≤g∧g≠K)∧Hid (RefW w r K cK r.k.z wx))
  case first =>
   have hb0:Below w3.heap.size w3 w3:=Below.refl _ _
   obtain ⟨u,hu⟩:∃ u,r.k.z[p]! = u:=⟨_,rfl⟩
   have HX3:=hI HW.out.x
   have BW:=hI (fun (W:World) (hb:Below w3.heap.size w3 W)=>qaa HX3.out.b hb)
   have hKw:=HW.out.hK
   have BS:=hI (fun (W:World) (hb:Below w3.heap.size w3 W)=>(show w.heap.size + 2≤W.heap.size from by have:=hb.size;omega))
   clear hKw
   have KS:Hid (∀ W,Below w3.heap.size w3 W→Below w3.heap.size w3 W∧W.cell? ⟨w.heap.size,9,none⟩=some (.slice (some ⟨K,0,none⟩) r.k.z.size cK)∧W.cell? ⟨w.heap.size,2,none⟩=some (.int .i64 ((p:Int) + 1))∧W.cell? ⟨w.heap.size,5,none⟩=some (.int .i64 r.floor)∧W.cell? ⟨w.heap.size,3,none⟩=some (.int .i64 r.clock)∧W.cell? ⟨w.heap.size,8,none⟩=some (.slice r.o.A r.o.z.size r.o.c)∧W.cell? ⟨K,p * 3,none⟩=some (.int .i64 u.base)∧W.cell? ⟨K,p * 3 + 1,none⟩=some (.slice u.r.A u.r.z.size u.r.c)∧W.cell? ⟨K,p * 3 + 2,none⟩=some (.slice u.a.A u.a.z.size u.a.c)):=fun W hb=>by
    have hx:=HX3.out.next hb
    have hw:=HW.out.next hb
    exact ⟨hb,hx.at_ 9 rfl,(hx.at_ 2 (v:=.int .i64 r.self) rfl).trans (by rw [HP.out]),hx.at_ 5 rfl,hx.at_ 3 rfl,hx.at_ 8 rfl,hu ▸ hw.cells hpk 0 (by omega),hu ▸ hw.cells hpk 1 (by omega),hu ▸ hw.cells hpk 2 (by omega)⟩
   rw [hu] at HAdd
   simp only [qaz] at HAdd
   clear hu
   go_region_held3 (fun W=>Below w3.heap.size w3 W∧W.cell? ⟨w.heap.size,9,none⟩=some (.slice (some ⟨K,0,none⟩) r.k.z.size cK)∧W.cell? ⟨w.heap.size,2,none⟩=some (.int .i64 ((p:Int) + 1))∧W.cell? ⟨w.heap.size,5,none⟩=some (.int .i64 r.floor)∧W.cell? ⟨w.heap.size,3,none⟩=some (.int .i64 r.clock)∧W.cell? ⟨w.heap.size,8,none⟩=some (.slice r.o.A r.o.z.size r.o.c)∧W.cell? ⟨K,p * 3,none⟩=some (.int .i64 u.base)∧W.cell? ⟨K,p * 3 + 1,none⟩=some (.slice u.r.A u.r.z.size u.r.c)∧W.cell? ⟨K,p * 3 + 2,none⟩=some (.slice u.a.A u.a.z.size u.a.c)) (exact KS.out _ (by first | assumption | exact Below.drew (by assumption) | exact qab (by first | assumption | exact Below.drew (by assumption)) _ | exact (qab (by assumption) _).drew | exact ((Below.setCell (p:=⟨w3.heap.size,0,none⟩) (by assumption) (Nat.le_refl _) _).setCell (p:=⟨w3.heap.size,1,none⟩) (Nat.le_refl _) _).setCell (p:=⟨w3.heap.size,2,none⟩) (Nat.le_refl _) _))
    (first
      | (go_at_call 30;((with_reducible refine (HAdd.out _ (BW.out _ (by first | assumption | exact Below.drew (by assumption) | exact qab (by assumption) _ | exact (qab (by assumption) _).drew)) (BS.out _ (by first | assumption | exact Below.drew (by assumption) | exact qab (by assumption) _ | exact (qab (by assumption) _).drew))).mono ?_);rintro e wa ⟨x,rfl,hax,hrx,hfx,hba⟩;have hbA:Below w3.heap.size w3 wa:=qaa (by first | assumption | exact Below.drew (by assumption) | exact qab (by assumption) _ | exact (qab (by assumption) _).drew) hba;have HAX:=hI hax;have HRX:=hI hrx;have HFX:=hI hfx;clear hax hrx hfx;(try (have hq:wa.heap[w3.heap.size]?=some (.cells #[.int .i64 0,.slice none 0 0,.slice none 0 0] 66 (0,0)):=(hba.block w3.heap.size (by simp)).trans (heap_alloc_new w3 _);have z0:wa.cell? ⟨w3.heap.size,0,none⟩=some (.int .i64 0):=(cell_of_row wa _ 0 _ _ (0,0) hq).trans rfl;have z1:wa.cell? ⟨w3.heap.size,1,none⟩=some (.slice none 0 0):=(cell_of_row wa _ 1 _ _ (0,0) hq).trans rfl;have z2:wa.cell? ⟨w3.heap.size,2,none⟩=some (.slice none 0 0):=(cell_of_row wa _ 2 _ _ (0,0) hq).trans rfl;have y0:wa.frozen? ⟨w3.heap.size,0,none⟩=false:=(by simp [World.frozen?,hq]);have y1:wa.frozen? ⟨w3.heap.size,1,none⟩=false:=(by simp [World.frozen?,hq]);have y2:wa.frozen? ⟨w3.heap.size,2,none⟩=false:=(by simp [World.frozen?,hq]);have HQ:=hI hq;clear hq));clear hba)))
   ·go_wp2
    go_meet
    have hKl:=HW.out.hK
    have hwa:=hbA.size
    exact ⟨wa.heap.size,x,rfl,rfl,HAX,HFX,HRX.out.below (bel1 wa _),heap_alloc_new wa _,⟨by omega,by omega⟩,HW.out.next (qab hbA _)⟩
   ·go_wp2
    go_meet
    have hKl:=HW.out.hK
    exact ⟨w3.heap.size,x,rfl,rfl,HAX,HFX,qwg HQ.out HRX.out _ _ _,box_set HQ.out _ _ _,⟨by omega,by omega⟩,HW.out.next (((hbA.setCell (p:=⟨w3.heap.size,0,none⟩) (Nat.le_refl _) _).setCell (p:=⟨w3.heap.size,1,none⟩) (Nat.le_refl _) _).setCell (p:=⟨w3.heap.size,2,none⟩) (Nat.le_refl _) _)⟩
  case rest =>
   obtain ⟨g,x,rfl,rfl,HAX,HFX,HRX,HGX,HGK,HW⟩:=hcut
   clear HAdd
   have hKl:=HW.out.hK
   have hne1:¬ K=w.heap.size:=by omega
   have hne2:¬ w.heap.size=K:=by omega
   have c9:=HW.out.x.at_ 9 (v:=.slice (some ⟨K,0,none⟩) r.k.z.size cK) rfl
   have c2:=(HW.out.x.at_ 2 (v:=.int .i64 r.self) rfl).trans (by rw [HP.out])
   have g0:wc.cell? ⟨g,0,none⟩=some (.int .i64 x.base):=(cell_of_row wc g 0 _ _ (0,0) HGX.out).trans rfl
   have g1:wc.cell? ⟨g,1,none⟩=some (.slice x.r.A x.r.z.size x.r.c):=(cell_of_row wc g 1 _ _ (0,0) HGX.out).trans rfl
   have g2:wc.cell? ⟨g,2,none⟩=some (.slice x.a.A x.a.z.size x.a.c):=(cell_of_row wc g 2 _ _ (0,0) HGX.out).trans rfl
   have k0:=HW.out.cells hpk 0 (by omega)
   have k1:=HW.out.cells hpk 1 (by omega)
   have k2:=HW.out.cells hpk 2 (by omega)
   have q0:=HW.out.froz (p * 3)
   have q1:=HW.out.froz (p * 3 + 1)
   have q2:=HW.out.froz (p * 3 + 2)
   generalize (qaz r.k.z[p]!)[0]! = y0 at k0
   generalize (qaz r.k.z[p]!)[1]! = y1 at k1
   generalize (qaz r.k.z[p]!)[2]! = y2 at k2
   rw [Nat.add_zero] at k0
   go_wp2
   have HW4:=hI (HW.out.put hpk HRX.out HFX.out)
   obtain ⟨wl,hwl⟩:∃ W,W=(((wc.setCell ⟨K,p * 3,none⟩ (.int .i64 x.base)).setCell ⟨K,p * 3 + 1,none⟩ (.slice x.r.A x.r.z.size x.r.c)).setCell ⟨K,p * 3 + 2,none⟩ (.slice x.a.A x.a.z.size x.a.c)):=⟨_,rfl⟩
   rw [←hwl] at HW4 ⊢
   obtain ⟨kb,hkb⟩:∃ kb,r.k.z.setIfInBounds p x=kb:=⟨_,rfl⟩
   have HKB:Hid (KbR r p kb):=by
    refine ⟨by rw [←hkb];simp,fun i hi hip=>?_,?_,?_⟩
    ·rw [←hkb,getElem!_def,getElem!_def,Array.getElem?_setIfInBounds,if_neg (Ne.symm hip)]
    ·rw [←hkb,getElem!_set_same _ p x hpk];exact HAX.out.1
    ·rw [←hkb,getElem!_set_same _ p x hpk];exact HAX.out.2
   rw [hkb] at HW4
   have HKS0:Hid (KsR r kb kb 0):=⟨rfl,fun i hi=>absurd hi (Nat.not_lt_zero i),fun i _ _=>rfl⟩
   have HPK:=hI hpk
   clear hwl hkb HAX HRX HGX HGK HW hKl c9 c2 g0 g1 g2 k0 k1 k2 q0 q1 q2 hwr hpz hpk
   go_loopw [46] (fun i wr=>∃ (k:Nat) (ks:Array KE),i=.int .i64 k∧k≤r.k.z.size∧Hid (KsR r kb ks k)∧Hid (RefW w r K cK ks wr)∧Hid (∀ i,i < k→FarN w ks[i]!)) (fun i _=>r.k.z.size - (intOf i).toNat)
   case atStart=>exact ⟨0,kb,rfl,Nat.zero_le _,HKS0,HW4,hI (fun i hi=>absurd hi (Nat.not_lt_zero i))⟩
   case round =>
    obtain ⟨k,ks,rfl,hk,HKS,HWk,HFN⟩:=hrel
    by_cases hlt:k < r.k.z.size
    ·have kz:(k:Int) < (r.k.z.size:Int):=by omega
     have hks:ks.size=r.k.z.size:=HKS.out.sz.trans HKB.out.sz
     have hkk:k < ks.size:=by omega
     have hKl:=HWk.out.hK
     have HCH:=hI (HKB.out.chk HCK.out HFM.out HP.out HPK.out k hlt)
     have HE:=hI (HKS.out.hi k (Nat.le_refl _) (by rw [HKB.out.sz];exact hlt))
     have HFC:=hI (HKS.out.few (K:=K) (cK:=cK) HKB.out HCK.out HFM.out HP.out HPK.out)
     obtain ⟨u,hu⟩:∃ u,ks[k]! = u:=⟨_,rfl⟩
     have k0:=HWk.out.cells hkk 0 (by omega)
     have k1:=HWk.out.cells hkk 1 (by omega)
     have k2:=HWk.out.cells hkk 2 (by omega)
     have HUR:Hid (RdKE wr u):=by show RdKE wr u;rw [←hu];exact HWk.out.kk k hkk
     rw [hu] at k0 k1 k2 HE
     simp only [qaz,List.getElem!_cons_zero,List.getElem!_cons_succ,Nat.add_zero] at k0 k1 k2
     obtain ⟨csk,hcsk⟩:∃ c,c=(encP (kR r K cK ks)).toArray:=⟨_,rfl⟩
     obtain ⟨hszk,honek⟩:=rowP hcsk
     have hdn:=chkR_d HCK.out
     have HOV:Hid (∀ W,Below wr.heap.size wr W→Calls Tryz.prog 86 #[.agg csk,.agg #[.int .i64 u.base,.slice u.r.A u.r.z.size u.r.c,.slice u.a.A u.a.z.size u.a.c]] W fun e w'=>(∃ (A:Option Addr) (s:Array Int) (c:Nat),e=.returned (.slice A s.size c)∧qns r u.kn s∧RdI_R w'.heap.size w' A s∧s.size≤1000)∧Below W.heap.size W w'):=fun W hb=>by
      have hcu:ChkP u.kn:=by rw [HE.out];exact HCH.out.1
      have hau:u.a.z.size≤400:=by rw [HE.out];exact HCH.out.2.2
      have:=over_any (kR r K cK ks) _ u.kn W ((HWk.out.next hb).rd HRD.out) (HUR.out.below hb).knV HFC.out hdn (qdp.2 hcu) (by show u.a.z.size≤1000;omega)
      rw [←hcsk] at this
      exact this
     have HSE:Hid (∀ W (A:Option Addr) (s:Array Int) (c:Nat),Below wr.heap.size wr W→RdI_R W.heap.size W A s→s.size≤1000→Calls Tryz.prog 85 #[.agg #[.int .i64 u.base,.slice u.r.A u.r.z.size u.r.c,.slice u.a.A u.a.z.size u.a.c],.slice A s.size c] W fun e w'=>∃ y:KE,e=.returned (.agg #[.int .i64 y.base,.slice y.r.A y.r.z.size y.r.c,.slice y.a.A y.a.z.size y.a.c])∧SetR u.kn s y.kn∧RdKE w' y∧FarN w y∧Below W.heap.size W w'):=fun W A s c hb h1 h2=>by
      have hcu:ChkP u.kn:=by rw [HE.out];exact HCH.out.1
      have hru:u.r.z.size≤500:=by rw [HE.out];exact HCH.out.2.1
      have hku:=HUR.out.below hb
      refine (qtg u.base u.r.z u.a.z u.r.A u.r.c u.a.A u.a.c s A c W hku.r.rd hku.a.rd h1 hcu hru (by omega)).mono fun e w' ⟨v,kn,he,hv,ha,_,hb2⟩=>?_
      obtain ⟨y,rfl,rfl,hy,f1,f2⟩:=keOfF hv
      exact ⟨y,he,ha,hy,FarN.new (by have:=hb.size;omega) f1 f2,hb2⟩
     have HXk:=hI (hcsk ▸ HWk.out.x:BoxG w w.heap.size csk 35 wr)
     have h9k:csk[9]?=some (.slice (some ⟨K,0,none⟩) r.k.z.size cK):=by rw [hcsk,←hks];rfl
     have H9:=hI h9k
     have HU:=hI hu
     have HCSK:=hI hcsk
     clear hu hcsk h9k k0 k1 k2
     have k0:=HWk.out.cells hkk 0 (by omega)
     have k1:=HWk.out.cells hkk 1 (by omega)
     have k2:=HWk.out.cells hkk 2 (by omega)
     rw [HU.out] at k0 k1 k2
     simp only [qaz,List.getElem!_cons_zero,List.getElem!_cons_succ,Nat.add_zero] at k0 k1 k2
     go_wp2
     have HG1:Hid ((wr.alloc (.cells #[.int .i64 u.base,.slice u.r.A u.r.z.size u.r.c,.slice u.a.A u.a.z.size u.a.c] 66)).heap[wr.heap.size]?=some (.cells #[.int .i64 u.base,.slice u.r.A u.r.z.size u.r.c,.slice u.a.A u.a.z.size u.a.c] 66 (0,0))):=heap_alloc_new wr _
     have HBr:Hid (Below wr.heap.size wr (wr.alloc (.cells #[.int .i64 u.base,.slice u.r.A u.r.z.size u.r.c,.slice u.a.A u.a.z.size u.a.c] 66))):=bel1 wr _
     have hGl:wr.heap.size < (wr.alloc (.cells #[.int .i64 u.base,.slice u.r.A u.r.z.size u.r.c,.slice u.a.A u.a.z.size u.a.c] 66)).heap.size:=by simp
     obtain ⟨wr1,hwr1⟩:∃ W,W=wr.alloc (.cells #[.int .i64 u.base,.slice u.r.A u.r.z.size u.r.c,.slice u.a.A u.a.z.size u.a.c] 66):=⟨_,rfl⟩
     rw [←hwr1] at HG1 HBr hGl ⊢
     have HX1:=hI (HXk.out.next HBr.out)
     have hxl:=HX1.out.lt
     obtain ⟨G,hG⟩:∃ G,wr.heap.size=G:=⟨_,rfl⟩
     rw [hG] at HG1 hGl hKl
     clear hwr1 k0 k1 k2
     have hb0:Below wr1.heap.size wr1 wr1:=Below.refl _ _
     have BW:=hI (fun (W:World) (hb:Below wr1.heap.size wr1 W)=>qaa HBr.out hb)
     have KS:Hid (∀ W,wr1.grownBy W (some K)→wr1.grownBy W (some K)∧W.cell? ⟨w.heap.size,9,none⟩=some (.slice (some ⟨K,0,none⟩) r.k.z.size cK)∧qap W w.heap.size 18=true∧rowAt W w.heap.size=csk∧W.cell? ⟨G,0,none⟩=some (.int .i64 u.base)∧W.cell? ⟨G,1,none⟩=some (.slice u.r.A u.r.z.size u.r.c)∧W.cell? ⟨G,2,none⟩=some (.slice u.a.A u.a.z.size u.a.c)):=fun W hg=>by
      have e1:W.heap[w.heap.size]?=wr1.heap[w.heap.size]?:=hg.block _ hxl (by intro e;injection e with e;omega)
      have e2:W.heap[G]?=wr1.heap[G]?:=hg.block _ hGl (by intro e;injection e with e;omega)
      have r1:=e1.trans HX1.out.row
      have r2:=e2.trans HG1.out
      exact ⟨hg,(cell_of_row W _ 9 _ _ (0,0) r1).trans H9.out,qbl r1 hszk,qcf r1,(cell_of_row W _ 0 _ _ (0,0) r2).trans rfl,(cell_of_row W _ 1 _ _ (0,0) r2).trans rfl,(cell_of_row W _ 2 _ _ (0,0) r2).trans rfl⟩
     rw [hG]
     go_region_held3 (fun W=>wr1.grownBy W (some K)∧W.cell? ⟨w.heap.size,9,none⟩=some (.slice (some ⟨K,0,none⟩) r.k.z.size cK)∧qap W w.heap.size 18=true∧rowAt W w.heap.size=csk∧W.cell? ⟨G,0,none⟩=some (.int .i64 u.base)∧W.cell? ⟨G,1,none⟩=some (.slice u.r.A u.r.z.size u.r.c)∧W.cell? ⟨G,2,none⟩=some (.slice u.a.A u.a.z.size u.a.c)) (exact KS.out _ (by first | assumption | exact qba (by first | assumption | exact Below.drew (by assumption)) _ | exact World.grownBy.trans (World.grownBy.trans (World.grownBy.trans (qba (by assumption) _) (qeb _ _ _ _)) (qeb _ _ _ _)) (qeb _ _ _ _)))
      (first
        | (go_at_call 86;((with_reducible refine (HOV.out _ (BW.out _ (by first | assumption | exact Below.drew (by assumption)))).mono ?_);rintro e wa ⟨⟨A3,s3,c3,rfl,ho3,hr3,hs3⟩,hba⟩;have hbA:Below wr1.heap.size wr1 wa:=qaa (by first | assumption | exact Below.drew (by assumption)) hba;have HO3:=hI ho3;have HR3:=hI hr3;have HS3:=hI hs3;clear ho3 hr3 hs3 hba))
        | (go_at_call 85;((with_reducible refine (HSE.out _ A3 s3 c3 (BW.out _ hbA) HR3.out HS3.out).mono ?_);rintro e wb ⟨y,rfl,hy1,hy2,hy3,hba⟩;have HY3:=hI hy3;have hbB:Below wr1.heap.size wr1 wb:=qaa hbA hba;have HY1:=hI hy1;have HY2:=hI hy2;clear hy1 hy2 hy3 hba;have HWb:=hI (HWk.out.next (BW.out _ hbB));have k0:=HWb.out.cells hkk 0 (by omega);have k1:=HWb.out.cells hkk 1 (by omega);have k2:=HWb.out.cells hkk 2 (by omega);rw [HU.out] at k0 k1 k2;simp only [qaz,List.getElem!_cons_zero,List.getElem!_cons_succ,Nat.add_zero] at k0 k1 k2;have q0:=HWb.out.froz (k * 3);have q1:=HWb.out.froz (k * 3 + 1);have q2:=HWb.out.froz (k * 3 + 2))))
     go_wp2
     go_roundw
     case rel =>
      have hcu:ChkP kb[k]!.kn:=HCH.out.1
      have hy:=HY1.out
      have ho:=HO3.out
      rw [HE.out] at hy ho
      have hfw:=set_few hcu hy
      exact ⟨k + 1,ks.setIfInBounds k y,by go_num,by omega,HKS.out.put (by rw [HKB.out.sz];exact hlt) ho hy hfw.1 hfw.2,HWb.out.put hkk HY2.out HY3.out.far,hI (farN_put HFN.out hkk HY3.out)⟩
     case measure=>simp [intOf];omega
    ·have hlt':decide ((k:Int) < (r.k.z.size:Int))=false:=decide_eq_false (by omega)
     obtain rfl:k=r.k.z.size:=by omega
     have hks:ks.size=r.k.z.size:=HKS.out.sz.trans HKB.out.sz
     have hkc:=HKS.out.chk HKB.out HCK.out HFM.out HP.out HPK.out
     have hcr:chkR (kR r K cK ks)=true:=chk_kR HCK.out hks hkc
     have hfc:FewC (kR r K cK ks):=HKS.out.few HKB.out HCK.out HFM.out HP.out HPK.out
     have hn39:=(qet HCK.out).1
     have hrows:qfk r.m.z (r.k.z.size:Int)=true:=by rw [HKN.out];exact qcq HCK.out
     have hmb:qas (qcy ks) (r.k.z.size:Int)=0:=qnd (by rw [HKN.out];exact hn39) (by rw [hks]) (fun i hi=>hkc i (by omega))
     have hbs:(qcy ks).size=r.k.z.size:=(qax ks).trans hks
     have hKl:=HWk.out.hK
     obtain ⟨csk,hcsk⟩:∃ c,c=(encP (kR r K cK ks)).toArray:=⟨_,rfl⟩
     obtain ⟨hszk,honek⟩:=rowP hcsk
     have HMK:Hid (∀ W,Below wr.heap.size wr W→Calls Tryz.prog 18 #[.agg csk] W fun e w'=>(∃ (A:Option Addr) (c:Nat),e=.returned (.slice A r.k.z.size c)∧RdI_R w'.heap.size w' A (qcy ks))∧Below W.heap.size W w'):=fun W hb=>by
      have:=qix (kR r K cK ks) W ((HWk.out.next hb).rd HRD.out) hfc
      rw [←hcsk] at this
      refine this.mono fun e w' ⟨⟨x,he,hx,hr⟩,hb2⟩=>?_
      have hx':x.z=qcy ks:=by rw [hx];unfold qeh;rw [if_pos hcr];rfl
      refine ⟨⟨x.A,x.c,by rw [he];unfold RW.v;rw [hx',hbs],hx' ▸ hr.rd⟩,hb2⟩
     have HTL:Hid (∀ W (A:Option Addr) (c:Nat),Below wr.heap.size wr W→RdI_R W.heap.size W A (qcy ks)→Calls Tryz.prog 31 #[.slice r.m.A r.m.z.size r.m.c,.int .i64 (r.k.z.size:Int),.int .i64 ((p:Int) + 1),.slice A r.k.z.size c] W fun e w'=>(∃ y:RW (RW Int),e=.returned (.tuple #[.slice y.A y.z.size y.c,.int .i64 0])∧OwnMM W.heap.size w' y∧qyx r.m.z p (qda r.m.z[p]!.z (qcy ks)) y.z)∧Below W.heap.size W w'):=fun W A c hb hr=>by
      have hq:=HRD.out.below (qaa HWk.out.x.b hb)
      have:=qoo r.m.A r.m.c r.k.z.size p r.m.z A c (qcy ks) W ⟨hq.m,hq.mm⟩ hrows HPK.out hr hmb
      rwa [hbs] at this
     have HXk:=hI (hcsk ▸ HWk.out.x:BoxG w w.heap.size csk 35 wr)
     have h10:csk[10]?=some (.slice r.m.A r.m.z.size r.m.c):=by rw [hcsk];rfl
     have h0:csk[0]?=some (.int .i64 (r.k.z.size:Int)):=by rw [hcsk,HKN.out];rfl
     have h2:csk[2]?=some (.int .i64 ((p:Int) + 1)):=by rw [hcsk,←HP.out];rfl
     have HH10:=hI h10
     have HH0:=hI h0
     have HH2:=hI h2
     have HCSK:=hI hcsk
     have HKC:=hI hkc
     have HRW:=hI hrows
     have HMB:=hI hmb
     have HKSZ:=hI hks
     have HFC:=hI hfc
     have HKl:=hI hKl
     have hb0:Below wr.heap.size wr wr:=Below.refl _ _
     have KS:Hid (∀ W,Below wr.heap.size wr W→Below wr.heap.size wr W∧W.cell? ⟨w.heap.size,10,none⟩=some (.slice r.m.A r.m.z.size r.m.c)∧W.cell? ⟨w.heap.size,0,none⟩=some (.int .i64 (r.k.z.size:Int))∧W.cell? ⟨w.heap.size,2,none⟩=some (.int .i64 ((p:Int) + 1))∧qap W w.heap.size 18=true∧rowAt W w.heap.size=csk):=fun W hb=>by
      have hx:=HXk.out.next hb
      exact ⟨hb,hx.at_ 10 HH10.out,hx.at_ 0 HH0.out,hx.at_ 2 HH2.out,hx.box hszk,hx.rowAt⟩
     clear hks hkc hcr hfc hn39 hrows hmb hbs hKl hcsk h10 h0 h2
     go_wp2
     go_region_held3 (fun W=>Below wr.heap.size wr W∧W.cell? ⟨w.heap.size,10,none⟩=some (.slice r.m.A r.m.z.size r.m.c)∧W.cell? ⟨w.heap.size,0,none⟩=some (.int .i64 (r.k.z.size:Int))∧W.cell? ⟨w.heap.size,2,none⟩=some (.int .i64 ((p:Int) + 1))∧qap W w.heap.size 18=true∧rowAt W w.heap.size=csk) (exact KS.out _ (by first | assumption | exact Below.drew (by assumption)))
      (first
        | (go_at_call 18;((with_reducible refine (HMK.out _ (by first | assumption | exact Below.drew (by assumption))).mono ?_);rintro e wa ⟨⟨A3,c3,rfl,hr3⟩,hba⟩;have hbA:Below wr.heap.size wr wa:=qaa (by first | assumption | exact Below.drew (by assumption)) hba;have HR3:=hI hr3;clear hr3 hba))
        | (go_at_call 31;((with_reducible refine (HTL.out _ A3 c3 hbA HR3.out).mono ?_);rintro e wb ⟨⟨y,rfl,hy1,hy2⟩,hba⟩;have hbB:Below wr.heap.size wr wb:=qaa hbA hba;have HY1:=hI hy1;have HY2:=hI hy2;clear hy1 hy2 hba)))
     have HXb:=hI (HXk.out.next hbB)
     have HZb:=hI (HWk.out.z.next hbB)
     have HQb:=hI ((HWk.out.next hbB).q (fun i hi=>HFN.out i (by have:=HKSZ.out;omega)))
     have c10:=HXb.out.at_ 10 HH10.out
     have f10:=HXb.out.froz 10
     have hbAs:=hbA.size
     go_wp2
     have HX5:=hI (HXb.out.set (Nat.le_refl _) 10 (.slice y.A y.z.size y.c))
     have HZ5:=hI (HZb.out.far (g2:=w.heap.size) (Nat.le_refl _) (by omega) 10 (.slice y.A y.z.size y.c))
     have HQ5:=hI ((HQb.out.setM HY1.out (by have:=HKl.out;omega)).box (W2:=wb.setCell ⟨w.heap.size,10,none⟩ (.slice y.A y.z.size y.c)) (fun j hj=>heap_setCell_other wb ⟨w.heap.size,10,none⟩ j _ (by simp;omega)) (by simp))
     have HY5:Hid (∀ W,Below (wb.setCell ⟨w.heap.size,10,none⟩ (.slice y.A y.z.size y.c)).heap.size (wb.setCell ⟨w.heap.size,10,none⟩ (.slice y.A y.z.size y.c)) W→RdMM W y):=fun W hb=>HY1.out W (fun j hj hl=>(hb.block j (by simpa using hl)).trans (heap_setCell_other wb ⟨w.heap.size,10,none⟩ j _ (by have:=HKl.out;simp;omega))) (by simpa using hb.size)
     obtain ⟨csm,hcsm⟩:∃ c,c=(encP { kR r K cK ks with m:=y }).toArray:=⟨_,rfl⟩
     have hset:csk.setIfInBounds 10 (.slice y.A y.z.size y.c)=csm:=by rw [HCSK.out,hcsm];rfl
     rw [hset] at HX5
     obtain ⟨w5,hw5⟩:∃ W,W=wb.setCell ⟨w.heap.size,10,none⟩ (.slice y.A y.z.size y.c):=⟨_,rfl⟩
     rw [←hw5] at HX5 HZ5 HQ5 HY5 ⊢
     have HCSM:=hI hcsm
     have HFL:Hid (∀ W,Below w5.heap.size w5 W→Calls Tryz.prog 87 #[.slice y.A y.z.size y.c,.int .i64 (r.k.z.size:Int),.int .i64 ((p:Int) + 1)] W fun e w'=>e=.returned (.int .i64 (qeg (colM y.z p)))∧Below W.heap.size W w'):=fun W hb =>
      quk y.A y.c r.k.z.size p y.z W (HY5.out W hb) (tell_rows HRW.out (qgy ((qbv.1 HRW.out).2.2 p (by have:=(qbv.1 HRW.out).2.1;have:=HPK.out;omega)) HMB.out) HY2.out) HPK.out
     have KS5:Hid (∀ W,Below w5.heap.size w5 W→W.cell? ⟨w.heap.size,5,none⟩=some (.int .i64 r.floor)∧W.cell? ⟨w.heap.size,10,none⟩=some (.slice y.A y.z.size y.c)∧W.cell? ⟨w.heap.size,0,none⟩=some (.int .i64 (r.k.z.size:Int))∧W.cell? ⟨w.heap.size,2,none⟩=some (.int .i64 ((p:Int) + 1))∧W.cell? ⟨w.heap.size,3,none⟩=some (.int .i64 r.clock)):=fun W hb=>by
      have hx:=HX5.out.next hb
      have hcs:csm=_:=HCSM.out
      refine ⟨hx.at_ 5 (by rw [hcs];rfl),hx.at_ 10 (by rw [hcs];rfl),hx.at_ 0 (by rw [hcs,HKN.out];rfl),hx.at_ 2 (by rw [hcs,←HP.out];rfl),hx.at_ 3 (by rw [hcs];rfl)⟩
     clear c10 f10 hset hw5 hcsm HMK HTL
     refine qcz (S:=fun W=>W.cell? ⟨w.heap.size,5,none⟩=some (.int .i64 r.floor)∧W.cell? ⟨w.heap.size,10,none⟩=some (.slice y.A y.z.size y.c)∧W.cell? ⟨w.heap.size,0,none⟩=some (.int .i64 (r.k.z.size:Int))∧W.cell? ⟨w.heap.size,2,none⟩=some (.int .i64 ((p:Int) + 1))∧W.cell? ⟨w.heap.size,3,none⟩=some (.int .i64 r.clock)) (by kernel_rfl) ?_
     have hS:=KS5.out w5.drew (Below.refl _ _).drew
     refine tkF 77 0 rfl rfl hS ?_
     simp only [Act.put,sA,s0,s1]
     refine tkF 78 1 rfl rfl hS ?_
     simp only [Act.put,sA,s0,s1]
     refine tkF 79 2 rfl rfl hS ?_
     simp only [Act.put,sA,s0,s1]
     refine tkF 80 3 rfl rfl hS ?_
     simp only [Act.put,sA,s0,s1]
     refine tkF 81 4 rfl rfl hS ?_
     simp only [Act.put,sA,s0,s1]
     refine tkF 82 5 rfl rfl hS ?_
     simp only [Act.put,sA,s0,s1]
     refine tkF 83 6 rfl rfl hS ?_
     simp only [Act.put,sA,s0,s1]
     refine tkF 84 7 rfl rfl hS ?_
     simp only [Act.put,sA,s0,s1]
     refine tkF 86 9 rfl rfl hS ?_
     simp only [Act.put,sA,s0,s1]
     refine tkF 87 10 rfl rfl hS ?_
     simp only [Act.put,sA,s0,s1]
     refine qdt (rs:=[8]) (by kernel_rfl) (by simp) (AllReadyE.cons rfl (fun K' hK'=>?_) AllReadyE.nil)
     go_simp
     refine (HFL.out _ (Below.refl _ _).drew).mono ?_
     rintro e w6 ⟨rfl,hb6⟩
     have HB6:Hid (Below w5.heap.size w5 w6):=hI (qaa (Below.refl _ _).drew hb6)
     clear hb6
     refine hK'.out _ _ (KS5.out _ HB6.out) (fun _=>?_)
     clear hK' K' hS
     have hS:=KS5.out w6 HB6.out
     refine tkF 88 11 rfl rfl hS ?_
     simp only [Act.put,sA,s0,s1]
     refine tkF 89 12 rfl rfl hS ?_
     simp only [Act.put,sA,s0,s1]
     refine tkF 90 13 rfl rfl hS ?_
     simp only [Act.put,sA,s0,s1]
     have hS':=hS
     have f5:=(HX5.out.next HB6.out).froz 5
     have c5:=hS.1
     refine qdt (rs:=[14]) (by kernel_rfl) (by simp) (AllReadyE.last rfl (by kernel_rfl) (fun K' hK'=>?_))
     go_simp
     refine hK'.out _ _ ?_
     clear hK' K' c5 f5
     refine qca (by kernel_rfl) ?_ _
     have HX6:=hI (HX5.out.next HB6.out)
     have HZ6:=hI (HZ5.out.next HB6.out)
     have HQ6:=hI (HQ5.out.next HB6.out)
     obtain ⟨ff,hff⟩:∃ f,max r.floor (min (qeg (colM y.z p)) r.clock)=f:=⟨_,rfl⟩
     rw [hff]
     have HFF:=hI hff
     have HX7:=hI (HX6.out.set (Nat.le_refl _) 5 (.int .i64 ff))
     have HZ7:=hI (HZ6.out.far (g2:=w.heap.size) (Nat.le_refl _) (by omega) 5 (.int .i64 ff))
     have HQ7:=hI ((HQ6.out.setF ff).box (W2:=w6.setCell ⟨w.heap.size,5,none⟩ (.int .i64 ff)) (fun j hj=>heap_setCell_other w6 ⟨w.heap.size,5,none⟩ j _ (by simp;omega)) (by simp))
     obtain ⟨csf,hcsf⟩:∃ c,c=(encP { kR r K cK ks with m:=y,floor:=ff }).toArray:=⟨_,rfl⟩
     have hset:csm.setIfInBounds 5 (.int .i64 ff)=csf:=by rw [HCSM.out,hcsf];rfl
     rw [hset] at HX7
     obtain ⟨w7,hw7⟩:∃ W,W=w6.setCell ⟨w.heap.size,5,none⟩ (.int .i64 ff):=⟨_,rfl⟩
     rw [←hw7] at HX7 HZ7 HQ7 ⊢
     have HCF:=hI hcsf
     have HZl:=HZ7.out.lt
     clear hw7 hset hcsf hff hS' hS HFL KS5
     have c8:=HX7.out.at_ 8 (v:=.slice r.o.A r.o.z.size r.o.c) (by rw [HCF.out];rfl)
     have c5:=HX7.out.at_ 5 (v:=.int .i64 ff) (by rw [HCF.out];rfl)
     have HSW:Hid (Calls Tryz.prog 88 #[.slice r.o.A r.o.z.size r.o.c,.int .i64 ff] w7 fun e w'=>∃ (Ao:Option Addr) (co:Nat) (zo:Array (Int×Int)),e=.returned (.slice Ao zo.size co)∧zo=qsh r.o.z ff∧RdN qaf 2 w' ⟨Ao,co,zo⟩∧(∀ g off,Ao=some ⟨g,off,none⟩→w7.heap.size≤g)∧Below w7.heap.size w7 w') :=
      (qul r.o.A r.o.c r.o.z ff w7 (HRD.out.below HX7.out.b).o.rd (by have:=HFM.out.o;omega)).mono fun e w' ⟨⟨⟨Ao,co,zo⟩,h1,h2,h3,h4⟩,h5⟩=>⟨Ao,co,zo,h1,h2,h3,h4,h5⟩
     go_wp2_with fail
     refine HSW.out.mono ?_
     rintro _ w8 ⟨Ao,co,zo,rfl,hzo,hro,hfo,hb8⟩
     have HX8:=hI (HX7.out.next hb8)
     have HZ8:=hI (HZ7.out.next hb8)
     have HQ8:=hI ((HQ7.out.next hb8).setO hro (fun g off e=>Nat.le_trans (by omega) (hfo g off e)))
     have HZO:=hI hzo
     have c8:=HX8.out.at_ 8 (v:=.slice r.o.A r.o.z.size r.o.c) (by rw [HCF.out];rfl)
     have f8:=HX8.out.froz 8
     have HX9:=hI (HX8.out.set (Nat.le_refl _) 8 (.slice Ao zo.size co))
     have HZ9:=hI (HZ8.out.far (g2:=w.heap.size) (Nat.le_refl _) (by omega) 8 (.slice Ao zo.size co))
     obtain ⟨cse,hcse⟩:∃ c,c=(encP { kR r K cK ks with m:=y,floor:=ff,o:=⟨Ao,co,zo⟩ }).toArray:=⟨_,rfl⟩
     have hset:csf.setIfInBounds 8 (.slice Ao zo.size co)=cse:=by rw [HCF.out,hcse];rfl
     rw [hset] at HX9
     obtain ⟨hszE,honeE⟩:=rowP hcse
     have HCE:=hI hcse
     have x1:=HX9.out.box hszE
     have x2:=HX9.out.rowAt
     have x3:=HZ9.out.box (n:=18) rfl
     clear hcse hset hb8 hro hfo hzo c5 HSW HMB HRW
     go_wp2
     refine bodyPost_ret (qds rfl rfl (setRow_heap _ _ _ _ _ _ HZ9.out.row) hszE) rfl ?_
     have hbW:Below w.heap.size w ((w8.setCell ⟨w.heap.size,8,none⟩ (.slice Ao zo.size co)).setRow (w.heap.size + 1) cse):=HX9.out.b.trans ⟨rfl,rfl,rfl,by simp,fun j hj=>setRow_other _ _ j _ (by omega)⟩
     have hrd:=HQ8.out.sep (W2:=(w8.setCell ⟨w.heap.size,8,none⟩ (.slice Ao zo.size co)).setRow (w.heap.size + 1) cse) (by simp) (fun j hj hl=>(setRow_other _ _ j _ (by omega)).trans (heap_setCell_other w8 ⟨w.heap.size,8,none⟩ j _ (by simp;omega)))
     refine ⟨⟨_,by rw [←HCE.out],⟨rfl,HKSZ.out,fun i hi=>?_,HY2.out.1,fun i hi=>?_,?_,HZO.out⟩,hrd⟩,hbW⟩
     ·obtain ⟨⟨ids,h1,h2⟩,_⟩:=HKS.out.lo i hi (by rw [HKB.out.sz];exact hi)
      refine ⟨kb[i]!.kn,ids,?_,h1,h2⟩
      by_cases hip:i=p
      ·rw [if_pos (by rw [HP.out,hip]),hip]
       exact HKB.out.me
      ·rw [if_neg (by rw [HP.out];omega),HKB.out.oth i hi hip]
     ·rw [HY2.out.2 i hi]
      by_cases hip:i=p
      ·rw [if_pos hip,if_pos (by rw [HP.out,hip]),hip];rfl
      ·rw [if_neg hip,if_neg (by rw [HP.out];omega)]
     ·rw [show r.self.toNat - 1=p by rw [HP.out];omega]
      exact HFF.out.symm
 exact hgoal _ hcs
end Go.Proofs.YtlkmagmdhopcjaaGreat
