/- Texts that the law leans on. -/
import Derived.Test.YtlkmagmdhopcjaaGreatMRead
import Derived.Test.YtlkmagmdhopcjaaGreatMEnC
namespace Go.Proofs.YtlkmagmdhopcjaaGreat
open Go.RowKit Go.Sort Go.Lib
set_option maxRecDepth 100000
def FewA (r:RP) (b21 b18:Bool):Prop:=b21=true∧r.o.z.size≤100∧r.k.z.size≤20∧b18=true∧r.fr.z.size≤20∧r.d.z.size≤20
set_option maxHeartbeats 16000000 in
theorem qyo (r:RP) (w:World) (b21 b18:Bool) (p:Nat→Bool) (x:Bool)
 (hK:RdK qaz 3 w.heap.size w r.k.A r.k.z) (hD:RdK encW 1 w.heap.size w r.d.A r.d.z)
 (h21:∀ W,Below w.heap.size w W→Calls Tryz.prog 20 #[.slice r.e.A r.e.z.size r.e.c] W fun e w'=>e=.returned (.bool b21)∧Below W.heap.size W w')
 (h18:∀ W,Below w.heap.size w W→Calls Tryz.prog 21 #[.slice r.m.A r.m.z.size r.m.c] W fun e w'=>e=.returned (.bool b18)∧Below W.heap.size W w')
 (h16:∀ i,i < r.k.z.size→∀ W,Below w.heap.size w W→Calls Tryz.prog 22 #[.agg (qaz r.k.z[i]!).toArray] W fun e w'=>e=.returned (.bool (p i))∧Below W.heap.size W w')
 (hyes:FewA r b21 b18→(∀ i,i < r.k.z.size→p i=true)→(∀ i,i < r.d.z.size→r.d.z[i]!.z.size≤100)→x=decide (r.it.z.size≤60∧r.ss.z.size≤60)) (hnoA:¬ FewA r b21 b18→x=false) (hnoB:¬ (∀ i,i < r.k.z.size→p i=true)→x=false) (hnoC:¬ (∀ i,i < r.d.z.size→r.d.z[i]!.z.size≤100)→x=false) :
 Calls Tryz.prog 6 #[.agg (encP r).toArray] w fun e w'=>e=.returned (.bool x)∧Below w.heap.size w w':=by
 have H21:=hI h21
 have H18:=hI h18
 have H16:=hI h16
 have HRK:=hI hK
 have HRD:=hI hD
 have HY:=hI hyes
 have HNB:=hI hnoB
 have HNC:=hI hnoC
 have HX:=hI (BoxW.init w (encP r).toArray 35)
 clear h21 h18 h16 hK hD hyes hnoB hnoC
 simp only [encP] at HX ⊢
 by_cases hA:FewA r b21 b18
 ·have HPA:=hI hA
  obtain ⟨rfl,zo,zk,rfl,zf,zd⟩:=hA
  have zo':(r.o.z.size:Int)≤100:=by omega
  have zk':(r.k.z.size:Int)≤20:=by omega
  have zf':(r.fr.z.size:Int)≤20:=by omega
  have zd':(r.d.z.size:Int)≤20:=by omega
  clear hnoA
  go_enter Tryz.func6,Tryz.ntmps6
  go_wp2_with (first
   | (go_at_call 20;refine (H21.out _ HX.out.b).mono ?_;rintro _ w1 ⟨rfl,hb⟩;have HX:=hI (HX.out.next hb);clear hb;have c8:=HX.out.at_ 8;have c9:=HX.out.at_ 9;have c10:=HX.out.at_ 10)
   | (go_at_call 21;refine (H18.out _ HX.out.b).mono ?_;rintro _ w2 ⟨rfl,hb⟩;have HX:=hI (HX.out.next hb);clear hb;have c9:=HX.out.at_ 9;have c11:=HX.out.at_ 11;have c12:=HX.out.at_ 12))
  clear c8 c9 c10 c11 c12
  go_loopw [3] (fun i wr=>∃ k:Nat,i=.int .i64 k∧k≤r.k.z.size∧Hid (∀ j,j < k→p j=true)∧Hid (BoxW w #[.int .i64 r.n,.int .i64 r.f,.int .i64 r.self,.int .i64 r.clock,.int .i64 r.seq,.int .i64 r.floor,.int .i64 r.ticks,.slice r.e.A r.e.z.size r.e.c,.slice r.o.A r.o.z.size r.o.c,.slice r.k.A r.k.z.size r.k.c,.slice r.m.A r.m.z.size r.m.c,.slice r.fr.A r.fr.z.size r.fr.c,.slice r.d.A r.d.z.size r.d.c,.int .i64 r.lt,.int .i64 r.lid,.int .i64 r.count,.slice r.it.A r.it.z.size r.it.c,.slice r.ss.A r.ss.z.size r.ss.c] wr)) (fun i _=>r.k.z.size - (intOf i).toNat)
  case atStart=>exact ⟨0,rfl,Nat.zero_le _,hI (fun j hj=>absurd hj (by omega)),HX⟩
  case round =>
   clear HX
   obtain ⟨k,rfl,hk,hall,HB⟩:=hrel
   have c9:=HB.out.at_ 9
   by_cases hlt:k < r.k.z.size
   ·have kz:(k:Int) < (r.k.z.size:Int):=by omega
    obtain ⟨b,off,hA,hbl,f⟩:=(HRK.out.below HB.out.b).at_ (i:=k) (by omega)
    have e0:=f 0 (by omega)
    have e1:=f 1 (by omega)
    have e2:=f 2 (by omega)
    rw [hA] at c9
    have HC1:=hI (fun W hb=>H16.out k hlt W hb)
    obtain ⟨y,hy⟩:∃ y,r.k.z[k]! = y:=⟨_,rfl⟩
    obtain ⟨q,hq⟩:∃ q,p k=q:=⟨_,rfl⟩
    have HQ:=hI hq
    rw [hy,hq] at HC1
    rw [hy] at e0 e1 e2
    clear f hA hy hq
    simp only [Nat.add_zero,qaz,List.getElem!_cons_zero,List.getElem!_cons_succ] at e0 e1 e2 HC1
    cases q
    ·go_wp2_with (go_at_call 22;refine (HC1.out _ HB.out.b).mono ?_;rintro _ w1 ⟨rfl,hb⟩;have HB:=hI (HB.out.next hb);clear hb)
     go_ret
     refine ⟨qac (HNB.out fun h=>?_).symm,HB.out.b⟩
     have:=h k hlt
     rw [HQ.out] at this
     cases this
    ·go_wp2_with (go_at_call 22;refine (HC1.out _ HB.out.b).mono ?_;rintro _ w1 ⟨rfl,hb⟩;have HB:=hI (HB.out.next hb);clear hb)
     go_roundw
     case rel =>
      refine ⟨k + 1,by go_num,by omega,hI (fun j hj=>?_),HB⟩
      rcases Nat.lt_or_ge j k with h | h
      ·exact hall.out j h
      ·obtain rfl:j=k:=by omega
       exact HQ.out
     case measure=>simp [intOf];omega
   ·have hlt':decide ((k:Int) < (r.k.z.size:Int))=false:=by simp;omega
    have HALL:Hid (∀ j,j < r.k.z.size→p j=true):=fun j hj=>hall.out j (by omega)
    clear hall
    go_wp2
    clear c9 hk hlt hlt'
    obtain ⟨w0,rfl⟩:∃ W:World,W=wr:=⟨_,rfl⟩
    go_loop [4] (fun i=>∃ k:Nat,i=.int .i64 k∧k≤r.d.z.size∧Hid (∀ j,j < k→r.d.z[j]!.z.size≤100)) (fun i=>r.d.z.size - (intOf i).toNat)
    case atStart=>exact ⟨0,rfl,Nat.zero_le _,hI (fun j hj=>absurd hj (by omega))⟩
    case round =>
     obtain ⟨k,rfl,hk,hall⟩:=hrel
     have c12:=HB.out.at_ 12
     by_cases hlt:k < r.d.z.size
     ·have kz:(k:Int) < (r.d.z.size:Int):=by omega
      obtain ⟨b,off,hA,hbl,f⟩:=(HRD.out.below HB.out.b).at_ (i:=k) (by omega)
      have e0:=f 0 (by omega)
      rw [hA] at c12
      obtain ⟨y,hy⟩:∃ y,r.d.z[k]! = y:=⟨_,rfl⟩
      have HQ:=hI hy
      rw [hy] at e0
      clear f hA hy
      simp only [Nat.add_zero,Nat.mul_one,encW,RW.v,List.getElem!_cons_zero] at e0
      by_cases hz:y.z.size≤100
      ·have hz':(y.z.size:Int)≤100:=by omega
       go_wp2
       go_round
       case rel =>
        refine ⟨k + 1,by go_num,by omega,hI (fun j hj=>?_)⟩
        rcases Nat.lt_or_ge j k with h | h
        ·exact hall.out j h
        ·obtain rfl:j=k:=by omega
         rw [HQ.out]
         exact hz
       case measure=>simp [intOf];omega
      ·have hz':(100:Int) < (y.z.size:Int):=by omega
       go_wp2
       go_ret
       refine ⟨qac (HNC.out fun h=>?_).symm,HB.out.b⟩
       have:=h k hlt
       rw [HQ.out] at this
       exact hz this
     ·have hlt':decide ((k:Int) < (r.d.z.size:Int))=false:=by simp;omega
      have HF:=hI (HY.out HPA.out HALL.out (fun j hj=>hall.out j (by omega)))
      have c16:=HB.out.at_ 16
      have c17:=HB.out.at_ 17
      clear hall
      go_wp2
      all_goals
       go_ret
       refine ⟨qac ?_,HB.out.b⟩
       rw [HF.out]
       clear H16 HRK HRD HY HNB HNC HX HPA HB HALL
       grind
 ·have HNA:=hI (hnoA hA)
  have HF:=hI hA
  clear hA hnoA
  go_enter Tryz.func6,Tryz.ntmps6
  go_wp2_with (first
   | (go_at_call 20;refine (H21.out _ HX.out.b).mono ?_;rintro _ w1 ⟨rfl,hb⟩;have HX:=hI (HX.out.next hb);clear hb;have c8:=HX.out.at_ 8;have c9:=HX.out.at_ 9;have c10:=HX.out.at_ 10)
   | (go_at_call 21;refine (H18.out _ HX.out.b).mono ?_;rintro _ w2 ⟨rfl,hb⟩;have HX:=hI (HX.out.next hb);clear hb;have c9:=HX.out.at_ 9;have c11:=HX.out.at_ 11;have c12:=HX.out.at_ 12))
  all_goals first
   | (go_ret
      exact ⟨qac HNA.out.symm,HX.out.b⟩)
   | (exfalso
      have hh:=HF.out
      clear H21 H18 H16 HRK HRD HY HNB HNC HX
      simp only [FewA] at hh
      grind)
end Go.Proofs.YtlkmagmdhopcjaaGreat
