/- Texts that the law leans on. -/
import Derived.Test.YtnmojicfmcbgmaaGreatDoorQRead
import Derived.Test.YtnmojicfmcbgmaaGreatDoorQEnC
namespace Go.Proofs.YtnmojicfmcbgmaaGreatDoor
open Go.RowKit Go.Sort Go.Lib
set_option maxRecDepth 100000
def RckA (r:RP) (a0 c15 c21 c18 c17:Int):Prop :=
 a0≠0∧1≤r.self∧r.self≤r.n∧c15=0∧0≤r.seq∧r.seq≤99999∧0≤r.ticks∧r.ticks≤1000000∧0≤r.count∧r.count≤1000000∧c21=0∧(r.k.z.size:Int)=r.n∧c18=0∧c17=0∧(r.d.z.size:Int)=r.n
def RckB (r:RP) (ck cd:Nat→Int):Prop :=
 (∀ i,i < r.e.z.size→qbf r.e.z[i]!.id≤r.n)∧(∀ i,i < r.k.z.size→ck i=0∧cd i=0∧∀ j,j < r.d.z[i]!.z.size→r.d.z[i]!.z[j]!.2≤99999)
def RckC (r:RP):Prop:=(r.lt=0∧r.lid=0)∨((10≤r.lid∧r.lid≤999999∧r.lid % 10≠0)∧1≤r.lt∧r.lt≤1000000)
theorem qrs (id:Int):(qbf id == 0) = !decide (10≤id∧id≤999999∧id % 10≠0):=by
 unfold qbf
 by_cases h:id < 10∨999999 < id∨id % 10=0
 ·rw [if_pos h,decide_eq_false (by omega)];rfl
 ·rw [if_neg h,decide_eq_true (by omega)];exact beq_eq_false_iff_ne.2 (by omega)
set_option maxHeartbeats 16000000 in
theorem qpk (r:RP) (w:World) (a0 a1 a2 c15 c21 c18 c17:Int) (ck cd:Nat→Int) (x:Int)
 (hE:RdK encE 10 w.heap.size w r.e.A r.e.z) (hK:RdK qcs 3 w.heap.size w r.k.A r.k.z) (hD:RdK encW 1 w.heap.size w r.d.A r.d.z) (hDD:∀ i,i < r.d.z.size→RdK encR 2 w.heap.size w r.d.z[i]!.A r.d.z[i]!.z)
 (hz:r.e.z.size≤1000∧r.k.z.size≤1000∧r.d.z.size≤1000) (hzd:∀ i,i < r.d.z.size→r.d.z[i]!.z.size≤1000)
 (h1:∀ W,Below w.heap.size w W→Calls Tryz.prog 60 #[.int .i64 r.n,.int .i64 r.f] W fun e w'=>e=.returned (.tuple #[.int .i64 a0,.int .i64 a1,.int .i64 a2])∧Below W.heap.size W w')
 (h15:∀ W,Below w.heap.size w W→Calls Tryz.prog 123 #[.int .i64 r.clock,.int .i64 r.floor,.slice r.o.A r.o.z.size r.o.c] W fun e w'=>e=.returned (.int .i64 c15)∧Below W.heap.size W w')
 (h21:∀ W,Below w.heap.size w W→Calls Tryz.prog 124 #[.slice r.e.A r.e.z.size r.e.c] W fun e w'=>e=.returned (.int .i64 c21)∧Below W.heap.size W w')
 (h18:∀ W,Below w.heap.size w W→Calls Tryz.prog 125 #[.slice r.m.A r.m.z.size r.m.c,.int .i64 r.n] W fun e w'=>e=.returned (.int .i64 c18)∧Below W.heap.size W w')
 (h17:∀ W,Below w.heap.size w W→Calls Tryz.prog 126 #[.slice r.fr.A r.fr.z.size r.fr.c,.int .i64 r.n] W fun e w'=>e=.returned (.int .i64 c17)∧Below W.heap.size W w')
 (h16:∀ i,i < r.k.z.size→∀ W,Below w.heap.size w W→Calls Tryz.prog 128 #[.agg (qcs r.k.z[i]!).toArray] W fun e w'=>e=.returned (.int .i64 (ck i))∧Below W.heap.size W w')
 (h04:∀ i,i < r.d.z.size→∀ W,Below w.heap.size w W→Calls Tryz.prog 129 #[.slice r.d.z[i]!.A r.d.z[i]!.z.size r.d.z[i]!.c] W fun e w'=>e=.returned (.int .i64 (cd i))∧Below W.heap.size W w')
 (hyes:RckA r a0 c15 c21 c18 c17→RckB r ck cd→RckC r→x=0) (hnoA:¬ RckA r a0 c15 c21 c18 c17→x=2) (hnoB:¬ RckB r ck cd→x=2) (hnoC:¬ RckC r→x=2) :
 Calls Tryz.prog 71 #[.agg (encP r).toArray] w fun e w'=>e=.returned (.int .i64 x)∧Below w.heap.size w w':=by
 have H1:=hI h1
 have H15:=hI h15
 have H21:=hI h21
 have H18:=hI h18
 have H17:=hI h17
 have H16:=hI h16
 have H04:=hI h04
 have HRE:=hI hE
 have HRK:=hI hK
 have HRD:=hI hD
 have HRR:=hI hDD
 have HZD:=hI hzd
 have HY:=hI hyes
 have HNB:=hI hnoB
 have HNC:=hI hnoC
 obtain ⟨z1,z2,z3⟩:=hz
 have HX:=hI (BoxW.init w (encP r).toArray 35)
 clear h1 h15 h21 h18 h17 h16 h04 hE hK hD hDD hzd hyes hnoB hnoC
 simp only [encP] at HX ⊢
 by_cases hA:RckA r a0 c15 c21 c18 c17
 ·have HPA:=hI hA
  obtain ⟨ha0,s1,s2,rfl,q1,q2,t1,t2,n1,n2,rfl,hkn,rfl,rfl,hdn⟩:=hA
  have b0:(a0 == 0)=false:=beq_eq_false_iff_ne.2 ha0
  have b1:((r.k.z.size:Int) != r.n)=false:=by simp [hkn]
  have b2:((r.d.z.size:Int) != r.n)=false:=by simp [hdn]
  have HKN:=hI hkn
  have HDN:=hI hdn
  have HA0:=hI ha0
  clear hkn hdn ha0 hnoA
  go_enter Tryz.func71,Tryz.ntmps71
  go_wp2_with (first
   | (go_at_call 60;refine (H1.out _ HX.out.b).mono ?_;rintro _ w1 ⟨rfl,hb⟩;have HX:=hI (HX.out.next hb);clear hb;have c0:=HX.out.at_ 0;have c2:=HX.out.at_ 2;have c3:=HX.out.at_ 3;have c4:=HX.out.at_ 4;have c5:=HX.out.at_ 5;have c6:=HX.out.at_ 6;have c8:=HX.out.at_ 8;have d15:=HX.out.at_ 15)
   | (go_at_call 123;refine (H15.out _ HX.out.b).mono ?_;rintro _ w2 ⟨rfl,hb⟩;have HX:=hI (HX.out.next hb);clear hb;have c0:=HX.out.at_ 0;have c4:=HX.out.at_ 4;have c6:=HX.out.at_ 6;have d15:=HX.out.at_ 15;have c7:=HX.out.at_ 7)
   | (go_at_call 124;refine (H21.out _ HX.out.b).mono ?_;rintro _ w3 ⟨rfl,hb⟩;have HX:=hI (HX.out.next hb);clear hb;have c0:=HX.out.at_ 0;have c9:=HX.out.at_ 9;have c10:=HX.out.at_ 10)
   | (go_at_call 125;refine (H18.out _ HX.out.b).mono ?_;rintro _ w4 ⟨rfl,hb⟩;have HX:=hI (HX.out.next hb);clear hb;have c0:=HX.out.at_ 0;have c11:=HX.out.at_ 11)
   | (go_at_call 126;refine (H17.out _ HX.out.b).mono ?_;rintro _ w5 ⟨rfl,hb⟩;have HX:=hI (HX.out.next hb);clear hb;have c0:=HX.out.at_ 0;have c12:=HX.out.at_ 12))
  clear b0 b1 b2 c0 c12 q1 q2 t1 t2 n1 n2
  go_loopw [6] (fun i wr=>∃ k:Nat,i=.int .i64 k∧k≤r.e.z.size∧Hid (∀ j,j < k→qbf r.e.z[j]!.id≤r.n)∧Hid (BoxW w #[.int .i64 r.n,.int .i64 r.f,.int .i64 r.self,.int .i64 r.clock,.int .i64 r.seq,.int .i64 r.floor,.int .i64 r.ticks,.slice r.e.A r.e.z.size r.e.c,.slice r.o.A r.o.z.size r.o.c,.slice r.k.A r.k.z.size r.k.c,.slice r.m.A r.m.z.size r.m.c,.slice r.fr.A r.fr.z.size r.fr.c,.slice r.d.A r.d.z.size r.d.c,.int .i64 r.lt,.int .i64 r.lid,.int .i64 r.count,.slice r.it.A r.it.z.size r.it.c,.slice r.ss.A r.ss.z.size r.ss.c] wr)) (fun i _=>r.e.z.size - (intOf i).toNat)
  case atStart=>exact ⟨0,rfl,Nat.zero_le _,hI (fun j hj=>absurd hj (by omega)),HX⟩
  case round =>
   obtain ⟨k,rfl,hk,hall,HB⟩:=hrel
   have c0:=HB.out.at_ 0
   have c7:=HB.out.at_ 7
   by_cases hlt:k < r.e.z.size
   ·have kz:(k:Int) < (r.e.z.size:Int):=by omega
    obtain ⟨b,off,hA,hbl,f⟩:=(HRE.out.below HB.out.b).at_ (i:=k) (by omega)
    have e0:=f 0 (by omega)
    rw [hA] at c7
    obtain ⟨y,hy⟩:∃ y,r.e.z[k]! = y:=⟨_,rfl⟩
    have HQ:Hid (r.e.z[k]! = y):=hI hy
    rw [hy] at e0
    clear f hA hy
    simp only [Nat.add_zero,encE,List.getElem!_cons_zero] at e0
    go_wp2_with (go_at_call 127;refine (qen _ _).mono ?_;rintro _ _ ⟨rfl,rfl⟩)
    ·go_ret
     refine ⟨qaf (HNB.out (fun h=>?_)).symm,HB.out.b⟩
     have:=h.1 k hlt
     rw [HQ.out] at this
     omega
    ·go_roundw
     case rel =>
      refine ⟨k + 1,by go_num,by omega,hI (fun j hj=>?_),HB⟩
      rcases Nat.lt_or_ge j k with h | h
      ·exact hall.out j h
      ·obtain rfl:j=k:=by omega
       rw [HQ.out]
       omega
     case measure=>simp [intOf];omega
   ·have hlt':decide ((k:Int) < (r.e.z.size:Int))=false:=by simp;omega
    have HALL:Hid (∀ j,j < r.e.z.size→qbf r.e.z[j]!.id≤r.n):=fun j hj=>hall.out j (by omega)
    clear hall
    go_wp2
    go_loopw [9] (fun i wr=>∃ k:Nat,i=.int .i64 k∧k≤r.k.z.size∧Hid (∀ j,j < k→ck j=0∧cd j=0∧∀ l,l < r.d.z[j]!.z.size→r.d.z[j]!.z[l]!.2≤99999)∧Hid (BoxW w #[.int .i64 r.n,.int .i64 r.f,.int .i64 r.self,.int .i64 r.clock,.int .i64 r.seq,.int .i64 r.floor,.int .i64 r.ticks,.slice r.e.A r.e.z.size r.e.c,.slice r.o.A r.o.z.size r.o.c,.slice r.k.A r.k.z.size r.k.c,.slice r.m.A r.m.z.size r.m.c,.slice r.fr.A r.fr.z.size r.fr.c,.slice r.d.A r.d.z.size r.d.c,.int .i64 r.lt,.int .i64 r.lid,.int .i64 r.count,.slice r.it.A r.it.z.size r.it.c,.slice r.ss.A r.ss.z.size r.ss.c] wr)) (fun i _=>r.k.z.size - (intOf i).toNat)
    case atStart=>exact ⟨0,rfl,Nat.zero_le _,hI (fun j hj=>absurd hj (by omega)),HB⟩
    case round =>
     clear c0 c7 HB hk hlt hlt'
     obtain ⟨k,rfl,hk,hall,HB⟩:=hrel
     obtain ⟨w0,rfl⟩:∃ W:World,W=wr:=⟨_,rfl⟩
     have c0:=HB.out.at_ 0
     by_cases hlt:k < r.k.z.size
     ·have c9:=HB.out.at_ 9
      have c12:=HB.out.at_ 12
      have kz:(k:Int) < (r.k.z.size:Int):=by omega
      have kn:(k:Int) < r.n:=by have:=HKN.out;omega
      have hld:k < r.d.z.size:=by have:=HKN.out;have:=HDN.out;omega
      have kd:(k:Int) < (r.d.z.size:Int):=by omega
      obtain ⟨b,off,hA,hbl,f⟩:=(HRK.out.below HB.out.b).at_ (i:=k) (by omega)
      have e0:=f 0 (by omega)
      have e1:=f 1 (by omega)
      have e2:=f 2 (by omega)
      obtain ⟨b2,off2,hA2,hbl2,f2⟩:=(HRD.out.below HB.out.b).at_ (i:=k) (by omega)
      have g0:=f2 0 (by omega)
      have hbl2:=Nat.lt_of_lt_of_le hbl2 HB.out.b.size
      have HA2:=hI hA2
      rw [hA] at c9
      rw [hA2] at c12
      have HC1:=hI (fun W hb=>H16.out k hlt W hb)
      have HC2:=hI (fun W hb=>H04.out k hld W hb)
      have HR2:=hI (HRR.out k hld)
      have hz2:=HZD.out k hld
      obtain ⟨y,hy⟩:∃ y,r.k.z[k]! = y:=⟨_,rfl⟩
      obtain ⟨u,hu⟩:∃ u,r.d.z[k]! = u:=⟨_,rfl⟩
      obtain ⟨q1,hq1⟩:∃ q,ck k=q:=⟨_,rfl⟩
      obtain ⟨q2,hq2⟩:∃ q,cd k=q:=⟨_,rfl⟩
      have HU:=hI hu
      have HQ1:=hI hq1
      have HQ2:=hI hq2
      rw [hy,hq1] at HC1
      rw [hu,hq2] at HC2
      rw [hu] at g0 HR2 hz2
      rw [hy] at e0 e1 e2
      clear f f2 hA hA2 hy hu hq1 hq2
      simp only [Nat.add_zero,Nat.mul_one,qcs,encW,RW.v,List.getElem!_cons_zero,List.getElem!_cons_succ] at e0 e1 e2 g0 HC1
      by_cases hb1:q1=0
      ·subst hb1
       by_cases hb2:q2=0
       ·subst hb2
        go_wp2_with (first
         | (go_at_call 128;refine (HC1.out _ HB.out.b).mono ?_;rintro _ w1 ⟨rfl,hb⟩;have HB:=hI (HB.out.next hb);have g0:=(hb.cell (p:=⟨b2,off2 + k,none⟩) hbl2).trans g0;have hbl2:=Nat.lt_of_lt_of_le hbl2 hb.size;clear hb;have c12:=HB.out.at_ 12;rw [HA2.out] at c12)
         | (go_at_call 129;refine (HC2.out _ HB.out.b).mono ?_;rintro _ w2 ⟨rfl,hb⟩;have HB:=hI (HB.out.next hb);have g0:=(hb.cell (p:=⟨b2,off2 + k,none⟩) hbl2).trans g0;have hbl2:=Nat.lt_of_lt_of_le hbl2 hb.size;clear hb;have c12:=HB.out.at_ 12;rw [HA2.out] at c12))
        have hl12:=HB.out.lt
        go_loop [10] (fun l=>∃ m:Nat,l=.int .i64 m∧m≤u.z.size∧Hid (∀ l,l < m→u.z[l]!.2≤99999)) (fun l=>u.z.size - (intOf l).toNat)
        case atStart=>exact ⟨0,rfl,Nat.zero_le _,hI (fun j hj=>absurd hj (by omega))⟩
        case round =>
         obtain ⟨m,rfl,hm,hin⟩:=hrel
         by_cases hml:m < u.z.size
         ·have mz:(m:Int) < (u.z.size:Int):=by omega
          obtain ⟨b3,off3,hA3,hbl3,f3⟩:=(HR2.out.below HB.out.b).at_ (i:=m) (by omega)
          have i1:=f3 1 (by omega)
          rw [hA3] at g0
          obtain ⟨v,hv⟩:∃ v,u.z[m]! = v:=⟨_,rfl⟩
          have HV:=hI hv
          rw [hv] at i1
          clear f3 hA3 hv
          simp only [encR,List.getElem!_cons_zero,List.getElem!_cons_succ] at i1
          go_wp2
          ·go_ret
           refine ⟨qaf (HNB.out (fun h=>?_)).symm,HB.out.b⟩
           have:=(h.2 k hlt).2.2 m (by rw [HU.out];omega)
           rw [HU.out,HV.out] at this
           omega
          ·go_round
           case rel =>
            refine ⟨m + 1,by go_num,by omega,hI (fun j hj=>?_)⟩
            rcases Nat.lt_or_ge j m with h | h
            ·exact hin.out j h
            ·obtain rfl:j=m:=by omega
             rw [HV.out]
             omega
           case measure=>simp [intOf];omega
         ·have hml':decide ((m:Int) < (u.z.size:Int))=false:=by simp;omega
          have HIN:Hid (ck k=0∧cd k=0∧∀ l,l < r.d.z[k]!.z.size→r.d.z[k]!.z[l]!.2≤99999):=⟨HQ1.out,HQ2.out,fun l hl=>by rw [HU.out] at hl ⊢;exact hin.out l (by omega)⟩
          clear hin
          go_wp2
          go_roundw
          case rel =>
           refine ⟨k + 1,by go_num,by omega,hI (fun j hj=>?_),HB⟩
           rcases Nat.lt_or_ge j k with h | h
           ·exact hall.out j h
           ·obtain rfl:j=k:=by omega
            exact HIN.out
          case measure=>simp [intOf];omega
       ·have b2':(q2 != 0)=true:=bne_iff_ne.2 hb2
        have HF:Hid (x=2):=hI (HNB.out fun h=>hb2 (by have:=(h.2 k hlt).2.1;rw [HQ2.out] at this;exact this))
        clear hb2
        go_wp2_with (first
         | (go_at_call 128;refine (HC1.out _ HB.out.b).mono ?_;rintro _ w1 ⟨rfl,hb⟩;have HB:=hI (HB.out.next hb);have g0:=(hb.cell (p:=⟨b2,off2 + k,none⟩) hbl2).trans g0;have hbl2:=Nat.lt_of_lt_of_le hbl2 hb.size;clear hb;have c12:=HB.out.at_ 12;rw [HA2.out] at c12)
         | (go_at_call 129;refine (HC2.out _ HB.out.b).mono ?_;rintro _ w2 ⟨rfl,hb⟩;have HB:=hI (HB.out.next hb);clear hb))
        go_ret
        exact ⟨qaf HF.out.symm,HB.out.b⟩
      ·have b1':(q1 != 0)=true:=bne_iff_ne.2 hb1
       have HF:Hid (x=2):=hI (HNB.out fun h=>hb1 (by have:=(h.2 k hlt).1;rw [HQ1.out] at this;exact this))
       clear hb1
       go_wp2_with (go_at_call 128;refine (HC1.out _ HB.out.b).mono ?_;rintro _ w1 ⟨rfl,hb⟩;have HB:=hI (HB.out.next hb);clear hb)
       go_ret
       exact ⟨qaf HF.out.symm,HB.out.b⟩
     ·have hltn:decide ((k:Int) < r.n)=false:=by have:=HKN.out;simp;omega
      have HPB:Hid (RckB r ck cd):=⟨HALL.out,fun j hj=>hall.out j (by omega)⟩
      have c13:=HB.out.at_ 13
      have c14:=HB.out.at_ 14
      have z0:=qrs r.lid
      clear hlt hall
      go_wp2_with (go_at_call 127;refine (qen _ _).mono ?_;rintro _ _ ⟨rfl,rfl⟩)
      all_goals
       go_ret
       refine ⟨qaf ?_,HB.out.b⟩
       first
        | (refine (HY.out HPA.out HPB.out ?_).symm
           simp only [RckC] at *
           grind)
        | (refine (HNC.out (fun h=>?_)).symm
           simp only [RckC] at *
           grind)
 ·have HNA:=hI (hnoA hA)
  have HF:=hI hA
  clear hA hnoA
  go_enter Tryz.func71,Tryz.ntmps71
  go_wp2_with (first
   | (go_at_call 60;refine (H1.out _ HX.out.b).mono ?_;rintro _ w1 ⟨rfl,hb⟩;have HX:=hI (HX.out.next hb);clear hb;have c0:=HX.out.at_ 0;have c2:=HX.out.at_ 2;have c3:=HX.out.at_ 3;have c4:=HX.out.at_ 4;have c5:=HX.out.at_ 5;have c6:=HX.out.at_ 6;have c8:=HX.out.at_ 8;have d15:=HX.out.at_ 15)
   | (go_at_call 123;refine (H15.out _ HX.out.b).mono ?_;rintro _ w2 ⟨rfl,hb⟩;have HX:=hI (HX.out.next hb);clear hb;have c0:=HX.out.at_ 0;have c4:=HX.out.at_ 4;have c6:=HX.out.at_ 6;have d15:=HX.out.at_ 15;have c7:=HX.out.at_ 7)
   | (go_at_call 124;refine (H21.out _ HX.out.b).mono ?_;rintro _ w3 ⟨rfl,hb⟩;have HX:=hI (HX.out.next hb);clear hb;have c0:=HX.out.at_ 0;have c9:=HX.out.at_ 9;have c10:=HX.out.at_ 10)
   | (go_at_call 125;refine (H18.out _ HX.out.b).mono ?_;rintro _ w4 ⟨rfl,hb⟩;have HX:=hI (HX.out.next hb);clear hb;have c0:=HX.out.at_ 0;have c11:=HX.out.at_ 11)
   | (go_at_call 126;refine (H17.out _ HX.out.b).mono ?_;rintro _ w5 ⟨rfl,hb⟩;have HX:=hI (HX.out.next hb);clear hb;have c0:=HX.out.at_ 0;have c12:=HX.out.at_ 12))
  all_goals first
   | (go_ret
      exact ⟨qaf HNA.out.symm,HX.out.b⟩)
   | (exfalso
      have hh:=HF.out
      clear H1 H15 H21 H18 H17 H16 H04 HRE HRK HRD HRR HZD HY HNB HNC HX
      simp only [RckA] at hh
      grind)
end Go.Proofs.YtnmojicfmcbgmaaGreatDoor
