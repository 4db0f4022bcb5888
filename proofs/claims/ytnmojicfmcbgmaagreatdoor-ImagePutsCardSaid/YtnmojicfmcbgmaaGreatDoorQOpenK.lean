/- Texts that the law leans on. -/
import Derived.Deep.Fields
import Derived.Deep.Slices
import Derived.Lib.SmallJoins
import Derived.Test.YtnmojicfmcbgmaaGreatDoorQKnJ
import Derived.Test.YtnmojicfmcbgmaaGreatDoorQLaw
import Derived.Test.YtnmojicfmcbgmaaGreatDoorQBase
import Derived.Test.YtnmojicfmcbgmaaGreatDoorQRead
import Derived.Test.YtnmojicfmcbgmaaGreatDoorQRangesO
import Derived.Test.YtnmojicfmcbgmaaGreatDoorQEnC
import Derived.Test.YtnmojicfmcbgmaaGreatDoorQClkB
import Derived.Deep.AppendLies
import Derived.Deep.CutRange
import Derived.Deep.CutBlock
import Derived.Deep.RegionHeld3
import Derived.Deep.LoopGhost
import Derived.BigRegion
import Derived.Shelf.Abstract
import Derived.Test.YtnmojicfmcbgmaaGreatDoorQSortK
import Derived.Test.YtnmojicfmcbgmaaGreatDoorQIdentB
import Derived.Maps.AppendAt
import Derived.Laws.NewBlocks
import Derived.Test.YtnmojicfmcbgmaaGreatDoorQKnP
namespace Go.Proofs.YtnmojicfmcbgmaaGreatDoor
open Go.ChangeShapes Go.WideShapes Go.ChangeAt Go.RowKit Go.Deep Go.Joins
section
variable {H:Type} {enc:TypeId×Value→H} {P:Program} {w:World}
end
def fewK (k:KN):Bool:=decide (k.rs.size≤100) && decide (k.ats.size≤100)
theorem qvp {k:KN}:fewK k=true↔k.rs.size≤100∧k.ats.size≤100:=by unfold fewK;simp
set_option maxRecDepth 100000 in
set_option maxHeartbeats 1000000 in
theorem Few16_any (v:Value) (k:KN) (w:World) (h:KnV w v k):Calls Tryz.prog 58 #[v] w fun e w'=>e=.returned (.bool (fewK k))∧Below w.heap.size w w':=by
 obtain ⟨base,rs,ats⟩:=k
 obtain ⟨A1,c1,A2,c2,rfl,_⟩:=h
 have HF:Hid (fewK ⟨base,rs,ats⟩=(decide (rs.size≤100) && decide (ats.size≤100))):=hI rfl
 by_cases h1:rs.size≤100
 ·have q1:decide ((rs.size:Int)≤100)=true:=decide_eq_true (by omega)
  by_cases h2:ats.size≤100
  ·have q2:decide ((ats.size:Int)≤100)=true:=decide_eq_true (by omega)
   have HE:Hid (fewK ⟨base,rs,ats⟩=true):=by show _=_;rw [HF.out];simp [h1,h2]
   clear h1 h2
   go_enter Tryz.func58,Tryz.ntmps58
   go_wp2
   go_ret
   exact ⟨qag HE.out.symm,bel1 w _⟩
  ·have q2:decide ((ats.size:Int)≤100)=false:=decide_eq_false (by omega)
   have HE:Hid (fewK ⟨base,rs,ats⟩=false):=by show _=_;rw [HF.out];simp [h2]
   clear h1 h2
   go_enter Tryz.func58,Tryz.ntmps58
   go_wp2
   go_ret
   exact ⟨qag HE.out.symm,bel1 w _⟩
 ·have q1:decide ((rs.size:Int)≤100)=false:=decide_eq_false (by omega)
  have HE:Hid (fewK ⟨base,rs,ats⟩=false):=by show _=_;rw [HF.out];simp [h1]
  clear h1
  go_enter Tryz.func58,Tryz.ntmps58
  go_wp2
  go_ret
  exact ⟨qag HE.out.symm,bel1 w _⟩
end Go.Proofs.YtnmojicfmcbgmaaGreatDoor
namespace Go.Proofs.YtnmojicfmcbgmaaGreatDoor
open Go.RowKit Go.Sort Go.Lib
structure RdW {α:Type} [Inhabited α] (en:α→List Value) (k:Nat) (w:World) (x:RW α):Prop where
 rd:RdK en k w.heap.size w x.A x.z
 cz:x.z.size≤x.c
 no:x.A=none→x.c=0
theorem RdW.below {α:Type} [Inhabited α] {en:α→List Value} {k:Nat} {w w':World} {x:RW α} (h:RdW en k w x) (hb:Below w.heap.size w w'):RdW en k w' x:=⟨(h.rd.below hb).mono hb.size,h.cz,h.no⟩
def KE.kn (k:KE):KN:=⟨k.base,k.r.z,k.a.z⟩
structure RdN {α:Type} [Inhabited α] (en:α→List Value) (k:Nat) (w:World) (x:RW α):Prop where
 rd:RdK en k w.heap.size w x.A x.z
 no:x.A=none→x.c=0
theorem RdN.below {α:Type} [Inhabited α] {en:α→List Value} {k:Nat} {w w':World} {x:RW α} (h:RdN en k w x) (hb:Below w.heap.size w w'):RdN en k w' x:=⟨(h.rd.below hb).mono hb.size,h.no⟩
structure RdKE (w:World) (k:KE):Prop where
 r:RdN encR 2 w k.r
 a:RdN qbe 2 w k.a
theorem RdKE.below {w w':World} {k:KE} (h:RdKE w k) (hb:Below w.heap.size w w'):RdKE w' k:=⟨h.r.below hb,h.a.below hb⟩
theorem RdKE.knV {w:World} {k:KE} (h:RdKE w k):KnV w (.agg (qcs k).toArray) k.kn:=⟨k.r.A,k.r.c,k.a.A,k.a.c,rfl,h.r.rd,h.a.rd,h.r.no,h.a.no⟩
structure RdJ (w:World) (x:RW Int):Prop where
 rd:RdI_R w.heap.size w x.A x.z
 cz:x.z.size≤x.c
 no:x.A=none→x.c=0
theorem RdJ.below {w w':World} {x:RW Int} (h:RdJ w x) (hb:Below w.heap.size w w'):RdJ w' x:=⟨(h.rd.below hb).mono hb.size,h.cz,h.no⟩
structure RdP (w:World) (r:RP):Prop where
 e:RdT0 w r.e.A r.e.z
 o:RdN qbe 2 w r.o
 k:RdW qcs 3 w r.k
 kk:∀ i,i < r.k.z.size→RdKE w r.k.z[i]!
 m:RdW encW 1 w r.m
 mm:∀ i,i < r.m.z.size→RdJ w r.m.z[i]!
 fr:RdJ w r.fr
 d:RdW encW 1 w r.d
 dd:∀ i,i < r.d.z.size→RdW encR 2 w r.d.z[i]!
 it:RdW qdc 4 w r.it
 ss:RdW qcw 3 w r.ss
theorem RdP.below {w w':World} {r:RP} (h:RdP w r) (hb:Below w.heap.size w w'):RdP w' r :=
 ⟨h.e.below hb,h.o.below hb,h.k.below hb,fun i hi=>(h.kk i hi).below hb,h.m.below hb,fun i hi=>(h.mm i hi).below hb,h.fr.below hb,h.d.below hb,fun i hi=>(h.dd i hi).below hb,h.it.below hb,h.ss.below hb⟩
def fewM (m:Array (RW Int)):Bool:=decide (m.size≤20) && (List.range m.size).all fun i=>decide (m[i]!.z.size≤20)
theorem qhh {m:Array (RW Int)}:fewM m=true↔m.size≤20∧∀ i,i < m.size→m[i]!.z.size≤20:=by
 unfold fewM
 rw [Bool.and_eq_true,decide_eq_true_eq,List.all_eq_true]
 constructor
 ·rintro ⟨h,g⟩;exact ⟨h,fun i hi=>of_decide_eq_true (g i (List.mem_range.2 hi))⟩
 ·rintro ⟨h,g⟩;exact ⟨h,fun i hi=>decide_eq_true (g i (List.mem_range.1 hi))⟩
def fewKs (k:Array KE):Bool:=(List.range k.size).all fun i=>fewK k[i]!.kn
theorem fewKs_iff {k:Array KE}:fewKs k=true↔∀ i,i < k.size→fewK k[i]!.kn=true:=by
 unfold fewKs;rw [List.all_eq_true]
 exact ⟨fun g i hi=>g i (List.mem_range.2 hi),fun g i hi=>g i (List.mem_range.1 hi)⟩
def fewD (d:Array (RW (Int×Int))):Bool:=(List.range d.size).all fun i=>decide (d[i]!.z.size≤100)
theorem fewD_iff {d:Array (RW (Int×Int))}:fewD d=true↔∀ i,i < d.size→d[i]!.z.size≤100:=by
 unfold fewD;rw [List.all_eq_true]
 exact ⟨fun g i hi=>of_decide_eq_true (g i (List.mem_range.2 hi)),fun g i hi=>decide_eq_true (g i (List.mem_range.1 hi))⟩
def fewR (r:RP):Bool:=fewT r.e.z && decide (r.o.z.size≤100) && decide (r.k.z.size≤20) && fewM r.m.z && decide (r.fr.z.size≤20) && decide (r.d.z.size≤20) && fewKs r.k.z && fewD r.d.z && decide (r.it.z.size≤60) && decide (r.ss.z.size≤60)
structure FewP (r:RP):Prop where
 e:fewT r.e.z=true
 o:r.o.z.size≤100
 k:r.k.z.size≤20
 m:fewM r.m.z=true
 fr:r.fr.z.size≤20
 d:r.d.z.size≤20
 kk:∀ i,i < r.k.z.size→fewK r.k.z[i]!.kn=true
 dd:∀ i,i < r.d.z.size→r.d.z[i]!.z.size≤100
 it:r.it.z.size≤60
 ss:r.ss.z.size≤60
theorem qvq {r:RP}:fewR r=true↔FewP r:=by
 unfold fewR
 simp only [Bool.and_eq_true,decide_eq_true_eq,fewKs_iff,fewD_iff]
 exact ⟨fun ⟨⟨⟨⟨⟨⟨⟨⟨⟨a,b⟩,c⟩,d⟩,e⟩,f⟩,g⟩,h⟩,i⟩,j⟩=>⟨a,b,c,d,e,f,g,h,i,j⟩,fun ⟨a,b,c,d,e,f,g,h,i,j⟩=>⟨⟨⟨⟨⟨⟨⟨⟨⟨a,b⟩,c⟩,d⟩,e⟩,f⟩,g⟩,h⟩,i⟩,j⟩⟩
structure FewC (r:RP):Prop where
 es:r.e.z.size≤1000
 ee:∀ i,i < r.e.z.size→r.e.z[i]!.z.size≤1000∧r.e.z[i]!.pay.size≤1000
 o:r.o.z.size≤1000
 k:r.k.z.size≤20
 m:r.m.z.size≤20
 mm:∀ i,i < r.m.z.size→r.m.z[i]!.z.size≤1000
 fr:r.fr.z.size≤1000
 d:r.d.z.size≤20
 dd:∀ i,i < r.d.z.size→r.d.z[i]!.z.size≤1000
 kk:∀ i,i < r.k.z.size→r.k.z[i]!.r.z.size≤1000∧r.k.z[i]!.a.z.size≤1000
theorem FewP.c {r:RP} (h:FewP r):FewC r :=
 ⟨by have:=(qfp.1 h.e).1;omega,fun i hi=>by have h1:r.e.z[i]!.z.size≤100∧r.e.z[i]!.pay.size≤1000:=(qfp.1 h.e).2 i hi;omega,by have:=h.o;omega,h.k,(qhh.1 h.m).1,fun i hi=>by have:=(qhh.1 h.m).2 i hi;omega,by have:=h.fr;omega,h.d,fun i hi=>by have:=h.dd i hi;omega,fun i hi=>by have h1:r.k.z[i]!.r.z.size≤100∧r.k.z[i]!.a.z.size≤100:=qvp.1 (h.kk i hi);omega⟩
theorem RdP.tab {w:World} {r:RP} (h:RdP w r) (hf:FewC r):RdT w r.e.A r.e.z:=⟨h.e.rd,fun i hi=>(h.e.el i hi).fewW (hf.ee i hi).1 (hf.ee i hi).2,hf.es⟩
end Go.Proofs.YtnmojicfmcbgmaaGreatDoor
namespace Go.Proofs.YtnmojicfmcbgmaaGreatDoor
open Go.RowKit Go.Sort Go.Lib
set_option maxRecDepth 100000
def anyN (n:Nat) (p:Nat→Bool):Bool:=(List.range n).any p
theorem qkp {n:Nat} {p:Nat→Bool} (j:Nat) (hj:j < n) (h:p j=true):anyN n p=true:=by
 unfold anyN;rw [List.any_eq_true];exact ⟨j,List.mem_range.2 hj,h⟩
theorem qoz {n:Nat} {p:Nat→Bool} (h:∀ j,j < n→p j=false):anyN n p=false:=by
 unfold anyN;rw [List.any_eq_false];intro j hj;rw [h j (List.mem_range.1 hj)];exact Bool.false_ne_true
def IdxQ (p:Nat→Bool) (n:Nat) (e:Ending):Prop:=∃ r:Int,e=.returned (.int .i64 r)∧((0≤r∧anyN n p=true)∨(r = -1∧anyN n p=false))
set_option maxHeartbeats 4000000 in
theorem keIdx (p:Nat→Bool) (g:Nat) (lb:Array Value) (eg:∀ args w,(callFunc g args).run Tryz.prog w=.ok (.enter g args) w) (A:Option Addr) (c:Nat) (d:Array (KE)) (w:World) (h:RdK qcs 3 w.heap.size w A d) (hs:d.size≤1000000)
 (hp:∀ i,i < d.size→∀ W,Below w.heap.size w W→Calls Tryz.prog g (#[.agg (qcs d[i]!).toArray] ++ lb) W fun e w'=>e=.returned (.bool (p i))∧Below W.heap.size W w') :
 Calls Tryz.prog 186 #[.slice A d.size c,.func (.func g) #[] lb] w fun e w'=>IdxQ p d.size e∧Below w.heap.size w w':=by
 have HR:=hI h
 have HP:=hI hp
 clear h hp
 go_enter Tryz.func186,Tryz.ntmps186
 go_wp2
 go_loopw [8] (fun i wr=>∃ k:Nat,i=.int .i64 k∧k≤d.size∧Hid (∀ j,j < k→p j=false)∧Hid (Below w.heap.size w wr)) (fun i _=>d.size - (intOf i).toNat)
 case atStart=>exact ⟨0,rfl,Nat.zero_le _,hI (fun j hj=>absurd hj (by omega)),hI (Below.refl _ _)⟩
 case round =>
  obtain ⟨k,rfl,hk,hall,HB⟩:=hrel
  by_cases hlt:k < d.size
  ·have kz:(k:Int) < (d.size:Int):=by omega
   obtain ⟨b,off,rfl,hbl,f⟩:=(HR.out.below HB.out).at_ (i:=k) (by omega)
   have e0:=f 0 (by omega)
   have e1:=f 1 (by omega)
   have e2:=f 2 (by omega)
   have HC:=hI (fun W hb=>HP.out k hlt W hb)
   obtain ⟨x,hx⟩:∃ x,d[k]! = x:=⟨_,rfl⟩
   obtain ⟨q,hq⟩:∃ q,p k=q:=⟨_,rfl⟩
   rw [hx,hq] at HC
   rw [hx] at e0 e1 e2
   have HQ:=hI hq
   clear f hx hq
   simp only [Nat.add_zero,qcs,List.getElem!_cons_zero,List.getElem!_cons_succ] at e0 e1 e2 HC
   cases q
   ·go_wp2_with fail
    refine (HC.out _ HB.out).mono ?_
    rintro e w' ⟨rfl,hb'⟩
    have HB2:=hI (qac HB.out hb')
    clear hb'
    go_wp2
    go_roundw
    case rel =>
     refine ⟨k + 1,by go_num,by omega,hI (fun j hj=>?_),HB2⟩
     rcases Nat.lt_or_ge j k with h | h
     ·exact hall.out j h
     ·obtain rfl:j=k:=by omega
      exact HQ.out
    case measure=>simp [intOf];omega
   ·go_wp2_with fail
    refine (HC.out _ HB.out).mono ?_
    rintro e w' ⟨rfl,hb'⟩
    have HB2:=hI (qac HB.out hb')
    clear hb'
    go_wp2
    go_ret
    exact ⟨⟨k,rfl,Or.inl ⟨by omega,qkp k (by omega) HQ.out⟩⟩,HB2.out⟩
  ·have hlt':decide ((k:Int) < (d.size:Int))=false:=by simp;omega
   go_wp2
   go_ret
   exact ⟨⟨-1,rfl,Or.inr ⟨rfl,qoz fun j hj=>hall.out j (by omega)⟩⟩,HB.out⟩
set_option maxHeartbeats 2000000 in
theorem keCont (p:Nat→Bool) (g:Nat) (lb:Array Value) (eg:∀ args w,(callFunc g args).run Tryz.prog w=.ok (.enter g args) w) (A:Option Addr) (c:Nat) (d:Array (KE)) (w:World) (h:RdK qcs 3 w.heap.size w A d) (hs:d.size≤1000000)
 (hp:∀ i,i < d.size→∀ W,Below w.heap.size w W→Calls Tryz.prog g (#[.agg (qcs d[i]!).toArray] ++ lb) W fun e w'=>e=.returned (.bool (p i))∧Below W.heap.size W w') :
 Calls Tryz.prog 161 #[.slice A d.size c,.func (.func g) #[] lb] w fun e w'=>e=.returned (.bool (anyN d.size p))∧Below w.heap.size w w':=by
 have HI:=hI (keIdx p g lb eg A c d w h hs hp)
 clear h hp
 go_enter Tryz.func161,Tryz.ntmps161
 go_wp2_with fail
 refine HI.out.mono ?_
 rintro e w' ⟨⟨r,rfl,hr⟩,hb⟩
 have HB:=hI hb
 clear hb
 rcases hr with ⟨h1,h2⟩ | ⟨h1,h2⟩
 ·have h1':decide (0≤r)=true:=decide_eq_true h1
  go_wp2
  go_ret
  exact ⟨qag h2.symm,HB.out⟩
 ·subst h1
  go_wp2
  go_ret
  exact ⟨qag h2.symm,HB.out⟩
set_option maxHeartbeats 4000000 in
theorem rrIdx (p:Nat→Bool) (g:Nat) (lb:Array Value) (eg:∀ args w,(callFunc g args).run Tryz.prog w=.ok (.enter g args) w) (A:Option Addr) (c:Nat) (d:Array (RW (Int×Int))) (w:World) (h:RdK encW 1 w.heap.size w A d) (hs:d.size≤1000000)
 (hp:∀ i,i < d.size→∀ W,Below w.heap.size w W→Calls Tryz.prog g (#[.slice d[i]!.A d[i]!.z.size d[i]!.c] ++ lb) W fun e w'=>e=.returned (.bool (p i))∧Below W.heap.size W w') :
 Calls Tryz.prog 190 #[.slice A d.size c,.func (.func g) #[] lb] w fun e w'=>IdxQ p d.size e∧Below w.heap.size w w':=by
 have HR:=hI h
 have HP:=hI hp
 clear h hp
 go_enter Tryz.func190,Tryz.ntmps190
 go_wp2
 go_loopw [8] (fun i wr=>∃ k:Nat,i=.int .i64 k∧k≤d.size∧Hid (∀ j,j < k→p j=false)∧Hid (Below w.heap.size w wr)) (fun i _=>d.size - (intOf i).toNat)
 case atStart=>exact ⟨0,rfl,Nat.zero_le _,hI (fun j hj=>absurd hj (by omega)),hI (Below.refl _ _)⟩
 case round =>
  obtain ⟨k,rfl,hk,hall,HB⟩:=hrel
  by_cases hlt:k < d.size
  ·have kz:(k:Int) < (d.size:Int):=by omega
   obtain ⟨b,off,rfl,hbl,f⟩:=(HR.out.below HB.out).at_ (i:=k) (by omega)
   have e0:=f 0 (by omega)
   have HC:=hI (fun W hb=>HP.out k hlt W hb)
   obtain ⟨x,hx⟩:∃ x,d[k]! = x:=⟨_,rfl⟩
   obtain ⟨q,hq⟩:∃ q,p k=q:=⟨_,rfl⟩
   rw [hx,hq] at HC
   rw [hx] at e0
   have HQ:=hI hq
   clear f hx hq
   simp only [Nat.add_zero,Nat.mul_one,encW,RW.v,List.getElem!_cons_zero] at e0
   cases q
   ·go_wp2_with fail
    refine (HC.out _ HB.out).mono ?_
    rintro e w' ⟨rfl,hb'⟩
    have HB2:=hI (qac HB.out hb')
    clear hb'
    go_wp2
    go_roundw
    case rel =>
     refine ⟨k + 1,by go_num,by omega,hI (fun j hj=>?_),HB2⟩
     rcases Nat.lt_or_ge j k with h | h
     ·exact hall.out j h
     ·obtain rfl:j=k:=by omega
      exact HQ.out
    case measure=>simp [intOf];omega
   ·go_wp2_with fail
    refine (HC.out _ HB.out).mono ?_
    rintro e w' ⟨rfl,hb'⟩
    have HB2:=hI (qac HB.out hb')
    clear hb'
    go_wp2
    go_ret
    exact ⟨⟨k,rfl,Or.inl ⟨by omega,qkp k (by omega) HQ.out⟩⟩,HB2.out⟩
  ·have hlt':decide ((k:Int) < (d.size:Int))=false:=by simp;omega
   go_wp2
   go_ret
   exact ⟨⟨-1,rfl,Or.inr ⟨rfl,qoz fun j hj=>hall.out j (by omega)⟩⟩,HB.out⟩
set_option maxHeartbeats 2000000 in
theorem rrCont (p:Nat→Bool) (g:Nat) (lb:Array Value) (eg:∀ args w,(callFunc g args).run Tryz.prog w=.ok (.enter g args) w) (A:Option Addr) (c:Nat) (d:Array (RW (Int×Int))) (w:World) (h:RdK encW 1 w.heap.size w A d) (hs:d.size≤1000000)
 (hp:∀ i,i < d.size→∀ W,Below w.heap.size w W→Calls Tryz.prog g (#[.slice d[i]!.A d[i]!.z.size d[i]!.c] ++ lb) W fun e w'=>e=.returned (.bool (p i))∧Below W.heap.size W w') :
 Calls Tryz.prog 166 #[.slice A d.size c,.func (.func g) #[] lb] w fun e w'=>e=.returned (.bool (anyN d.size p))∧Below w.heap.size w w':=by
 have HI:=hI (rrIdx p g lb eg A c d w h hs hp)
 clear h hp
 go_enter Tryz.func166,Tryz.ntmps166
 go_wp2_with fail
 refine HI.out.mono ?_
 rintro e w' ⟨⟨r,rfl,hr⟩,hb⟩
 have HB:=hI hb
 clear hb
 rcases hr with ⟨h1,h2⟩ | ⟨h1,h2⟩
 ·have h1':decide (0≤r)=true:=decide_eq_true h1
  go_wp2
  go_ret
  exact ⟨qag h2.symm,HB.out⟩
 ·subst h1
  go_wp2
  go_ret
  exact ⟨qag h2.symm,HB.out⟩
def allN (n m:Nat) (p:Nat→Bool):Bool:=decide (n=m) && (List.range n).all p
theorem qek {n m:Nat} {p:Nat→Bool} (h:n=m) (g:∀ j,j < n→p j=true):allN n m p=true:=by
 unfold allN;rw [Bool.and_eq_true,decide_eq_true_eq,List.all_eq_true];exact ⟨h,fun j hj=>g j (List.mem_range.1 hj)⟩
theorem qsy {n m:Nat} {p:Nat→Bool} (j:Nat) (hj:j < n) (h:p j=false):allN n m p=false:=by
 rw [Bool.eq_false_iff]
 intro hc
 unfold allN at hc
 rw [Bool.and_eq_true,List.all_eq_true] at hc
 rw [hc.2 j (List.mem_range.2 hj)] at h
 cases h
theorem qsz {n m:Nat} {p:Nat→Bool} (h:¬ n=m):allN n m p=false:=by
 unfold allN;rw [decide_eq_false h];rfl
set_option maxHeartbeats 8000000 in
theorem rSame18 (p:Nat→Bool) (A1 A2:Option Addr) (c1 c2:Nat) (d1 d2:Array (RW Int)) (w:World) (h1:RdK encW 1 w.heap.size w A1 d1) (h2:RdK encW 1 w.heap.size w A2 d2) (hs1:d1.size≤1000000)
 (hp:∀ i,i < d1.size→i < d2.size→∀ W,Below w.heap.size w W→Calls Tryz.prog 106 #[.slice d1[i]!.A d1[i]!.z.size d1[i]!.c,.slice d2[i]!.A d2[i]!.z.size d2[i]!.c] W fun e w'=>e=.returned (.bool (p i))∧Below W.heap.size W w') :
 Calls Tryz.prog 105 #[.slice A1 d1.size c1,.slice A2 d2.size c2] w fun e w'=>e=.returned (.bool (allN d1.size d2.size p))∧Below w.heap.size w w':=by
 have HR1:=hI h1
 have HR2:=hI h2
 have HP:=hI hp
 clear h1 h2 hp
 by_cases hs:d1.size=d2.size
 ·have hb:((d1.size:Int) != (d2.size:Int))=false:=by simp [hs]
  have HS:=hI hs
  have hge:d1.size≤d2.size:=by omega
  clear hs
  go_enter Tryz.func105,Tryz.ntmps105
  go_wp2
  go_loopw [5] (fun i wr=>∃ k:Nat,i=.int .i64 k∧k≤d1.size∧Hid (∀ j,j < k→p j=true)∧Hid (Below w.heap.size w wr)) (fun i _=>d1.size - (intOf i).toNat)
  case atStart=>exact ⟨0,rfl,Nat.zero_le _,hI (fun j hj=>absurd hj (by omega)),hI (Below.refl _ _)⟩
  case round =>
   obtain ⟨k,rfl,hk,hall,HB⟩:=hrel
   by_cases hlt:k < d1.size
   ·have kz:(k:Int) < (d1.size:Int):=by omega
    have kz2:(k:Int) < (d2.size:Int):=by omega
    obtain ⟨b1,o1,rfl,hl1,f1⟩:=(HR1.out.below HB.out).at_ (i:=k) (by omega)
    obtain ⟨b2,o2,rfl,hl2,f2⟩:=(HR2.out.below HB.out).at_ (i:=k) (by omega)
    have e0:=f1 0 (by omega)
    have g0:=f2 0 (by omega)
    have HC:=hI (fun W hb=>HP.out k hlt (by omega) W hb)
    obtain ⟨x,hx⟩:∃ x,d1[k]! = x:=⟨_,rfl⟩
    obtain ⟨y,hy⟩:∃ y,d2[k]! = y:=⟨_,rfl⟩
    obtain ⟨q,hq⟩:∃ q,p k=q:=⟨_,rfl⟩
    rw [hx,hy,hq] at HC
    rw [hx] at e0
    rw [hy] at g0
    have HQ:=hI hq
    clear f1 f2 hx hy hq
    simp only [Nat.add_zero,Nat.mul_one,encW,RW.v,List.getElem!_cons_zero] at e0 g0
    have hw1:b1 < wr.heap.size:=Nat.lt_of_lt_of_le hl1 HB.out.size
    have hw2:b2 < wr.heap.size:=Nat.lt_of_lt_of_le hl2 HB.out.size
    have r0:=fun p:ExtW wr=>p.cell (a:=⟨b1,o1 + k,none⟩) hw1 e0
    have s0:=fun p:ExtW wr=>p.cell (a:=⟨b2,o2 + k,none⟩) hw2 g0
    clear e0 g0
    cases q
    all_goals
     go_wp2_with fail
     refine qae (by kernel_rfl) (by kernel_rfl) ?_
     repeat (first | go_big_quiet_step ((go_at_call 106;exact Calls.ext_of (HC.out _ (qac HB.out (ExtW.h _))))) | quiet_step (fail))
     refine wpQuiet_nil ?_
     intro w' hw'
     obtain ⟨⟨W,hbW⟩,hw''⟩:=hw'
     have hw3:w'=W:=hw''
     subst hw3
     have HW:=hI (qac HB.out hbW)
     clear hbW hw'' r0 s0
     go_wp2
     first
      | (go_roundw
         case rel =>
          refine ⟨k + 1,by go_num,by omega,hI (fun j hj=>?_),HW⟩
          rcases Nat.lt_or_ge j k with h | h
          ·exact hall.out j h
          ·obtain rfl:j=k:=by omega
           exact HQ.out
         case measure=>simp [intOf];omega)
      | (go_ret
         exact ⟨qag (qsy k hlt HQ.out).symm,HW.out⟩)
   ·have hlt':decide ((k:Int) < (d1.size:Int))=false:=by simp;omega
    go_wp2
    go_ret
    exact ⟨qag (qek HS.out fun i hi=>hall.out i (by omega)).symm,HB.out⟩
 ·have hb:((d1.size:Int) != (d2.size:Int))=true:=by simp;omega
  have HF:Hid (allN d1.size d2.size p=false):=qsz hs
  clear hs
  go_enter Tryz.func105,Tryz.ntmps105
  go_wp2
  go_ret
  exact ⟨qag HF.out.symm,Below.refl _ _⟩
set_option maxHeartbeats 8000000 in
theorem rSameDone (p:Nat→Bool) (A1 A2:Option Addr) (c1 c2:Nat) (d1 d2:Array (RW (Int×Int))) (w:World) (h1:RdK encW 1 w.heap.size w A1 d1) (h2:RdK encW 1 w.heap.size w A2 d2) (hs1:d1.size≤1000000)
 (hp:∀ i,i < d1.size→i < d2.size→∀ W,Below w.heap.size w W→Calls Tryz.prog 151 #[.slice d1[i]!.A d1[i]!.z.size d1[i]!.c,.slice d2[i]!.A d2[i]!.z.size d2[i]!.c] W fun e w'=>e=.returned (.bool (p i))∧Below W.heap.size W w') :
 Calls Tryz.prog 107 #[.slice A1 d1.size c1,.slice A2 d2.size c2] w fun e w'=>e=.returned (.bool (allN d1.size d2.size p))∧Below w.heap.size w w':=by
 have HR1:=hI h1
 have HR2:=hI h2
 have HP:=hI hp
 clear h1 h2 hp
 by_cases hs:d1.size=d2.size
 ·have hb:((d1.size:Int) != (d2.size:Int))=false:=by simp [hs]
  have HS:=hI hs
  have hge:d1.size≤d2.size:=by omega
  clear hs
  go_enter Tryz.func107,Tryz.ntmps107
  go_wp2
  go_loopw [5] (fun i wr=>∃ k:Nat,i=.int .i64 k∧k≤d1.size∧Hid (∀ j,j < k→p j=true)∧Hid (Below w.heap.size w wr)) (fun i _=>d1.size - (intOf i).toNat)
  case atStart=>exact ⟨0,rfl,Nat.zero_le _,hI (fun j hj=>absurd hj (by omega)),hI (Below.refl _ _)⟩
  case round =>
   obtain ⟨k,rfl,hk,hall,HB⟩:=hrel
   by_cases hlt:k < d1.size
   ·have kz:(k:Int) < (d1.size:Int):=by omega
    have kz2:(k:Int) < (d2.size:Int):=by omega
    obtain ⟨b1,o1,rfl,hl1,f1⟩:=(HR1.out.below HB.out).at_ (i:=k) (by omega)
    obtain ⟨b2,o2,rfl,hl2,f2⟩:=(HR2.out.below HB.out).at_ (i:=k) (by omega)
    have e0:=f1 0 (by omega)
    have g0:=f2 0 (by omega)
    have HC:=hI (fun W hb=>HP.out k hlt (by omega) W hb)
    obtain ⟨x,hx⟩:∃ x,d1[k]! = x:=⟨_,rfl⟩
    obtain ⟨y,hy⟩:∃ y,d2[k]! = y:=⟨_,rfl⟩
    obtain ⟨q,hq⟩:∃ q,p k=q:=⟨_,rfl⟩
    rw [hx,hy,hq] at HC
    rw [hx] at e0
    rw [hy] at g0
    have HQ:=hI hq
    clear f1 f2 hx hy hq
    simp only [Nat.add_zero,Nat.mul_one,encW,RW.v,List.getElem!_cons_zero] at e0 g0
    have hw1:b1 < wr.heap.size:=Nat.lt_of_lt_of_le hl1 HB.out.size
    have hw2:b2 < wr.heap.size:=Nat.lt_of_lt_of_le hl2 HB.out.size
    have r0:=fun p:ExtW wr=>p.cell (a:=⟨b1,o1 + k,none⟩) hw1 e0
    have s0:=fun p:ExtW wr=>p.cell (a:=⟨b2,o2 + k,none⟩) hw2 g0
    clear e0 g0
    cases q
    all_goals
     go_wp2_with fail
     refine qae (by kernel_rfl) (by kernel_rfl) ?_
     repeat (first | go_big_quiet_step ((go_at_call 151;exact Calls.ext_of (HC.out _ (qac HB.out (ExtW.h _))))) | quiet_step (fail))
     refine wpQuiet_nil ?_
     intro w' hw'
     obtain ⟨⟨W,hbW⟩,hw''⟩:=hw'
     have hw3:w'=W:=hw''
     subst hw3
     have HW:=hI (qac HB.out hbW)
     clear hbW hw'' r0 s0
     go_wp2
     first
      | (go_roundw
         case rel =>
          refine ⟨k + 1,by go_num,by omega,hI (fun j hj=>?_),HW⟩
          rcases Nat.lt_or_ge j k with h | h
          ·exact hall.out j h
          ·obtain rfl:j=k:=by omega
           exact HQ.out
         case measure=>simp [intOf];omega)
      | (go_ret
         exact ⟨qag (qsy k hlt HQ.out).symm,HW.out⟩)
   ·have hlt':decide ((k:Int) < (d1.size:Int))=false:=by simp;omega
    go_wp2
    go_ret
    exact ⟨qag (qek HS.out fun i hi=>hall.out i (by omega)).symm,HB.out⟩
 ·have hb:((d1.size:Int) != (d2.size:Int))=true:=by simp;omega
  have HF:Hid (allN d1.size d2.size p=false):=qsz hs
  clear hs
  go_enter Tryz.func107,Tryz.ntmps107
  go_wp2
  go_ret
  exact ⟨qag HF.out.symm,Below.refl _ _⟩
set_option maxHeartbeats 8000000 in
theorem qym (p:Nat→Bool) (A1 A2:Option Addr) (c1 c2:Nat) (d1 d2:Array (KE)) (w:World) (h1:RdK qcs 3 w.heap.size w A1 d1) (h2:RdK qcs 3 w.heap.size w A2 d2) (hs1:d1.size≤1000000)
 (hp:∀ i,i < d1.size→i < d2.size→∀ W,Below w.heap.size w W→Calls Tryz.prog 150 #[.agg (qcs d1[i]!).toArray,.agg (qcs d2[i]!).toArray] W fun e w'=>e=.returned (.bool (p i))∧Below W.heap.size W w') :
 Calls Tryz.prog 104 #[.slice A1 d1.size c1,.slice A2 d2.size c2] w fun e w'=>e=.returned (.bool (allN d1.size d2.size p))∧Below w.heap.size w w':=by
 have HR1:=hI h1
 have HR2:=hI h2
 have HP:=hI hp
 clear h1 h2 hp
 by_cases hs:d1.size=d2.size
 ·have hb:((d1.size:Int) != (d2.size:Int))=false:=by simp [hs]
  have HS:=hI hs
  have hge:d1.size≤d2.size:=by omega
  clear hs
  go_enter Tryz.func104,Tryz.ntmps104
  go_wp2
  go_loopw [5] (fun i wr=>∃ k:Nat,i=.int .i64 k∧k≤d1.size∧Hid (∀ j,j < k→p j=true)∧Hid (Below w.heap.size w wr)) (fun i _=>d1.size - (intOf i).toNat)
  case atStart=>exact ⟨0,rfl,Nat.zero_le _,hI (fun j hj=>absurd hj (by omega)),hI (Below.refl _ _)⟩
  case round =>
   obtain ⟨k,rfl,hk,hall,HB⟩:=hrel
   by_cases hlt:k < d1.size
   ·have kz:(k:Int) < (d1.size:Int):=by omega
    have kz2:(k:Int) < (d2.size:Int):=by omega
    obtain ⟨b1,o1,rfl,hl1,f1⟩:=(HR1.out.below HB.out).at_ (i:=k) (by omega)
    obtain ⟨b2,o2,rfl,hl2,f2⟩:=(HR2.out.below HB.out).at_ (i:=k) (by omega)
    have e0:=f1 0 (by omega)
    have e1:=f1 1 (by omega)
    have e2:=f1 2 (by omega)
    have g0:=f2 0 (by omega)
    have g1:=f2 1 (by omega)
    have g2:=f2 2 (by omega)
    have HC:=hI (fun W hb=>HP.out k hlt (by omega) W hb)
    obtain ⟨x,hx⟩:∃ x,d1[k]! = x:=⟨_,rfl⟩
    obtain ⟨y,hy⟩:∃ y,d2[k]! = y:=⟨_,rfl⟩
    obtain ⟨q,hq⟩:∃ q,p k=q:=⟨_,rfl⟩
    rw [hx,hy,hq] at HC
    rw [hx] at e0 e1 e2
    rw [hy] at g0 g1 g2
    have HQ:=hI hq
    clear f1 f2 hx hy hq
    simp only [Nat.add_zero,qcs,List.getElem!_cons_zero,List.getElem!_cons_succ] at e0 e1 e2 g0 g1 g2 HC
    have hw1:b1 < wr.heap.size:=Nat.lt_of_lt_of_le hl1 HB.out.size
    have hw2:b2 < wr.heap.size:=Nat.lt_of_lt_of_le hl2 HB.out.size
    have r0:=fun p:ExtW wr=>p.cell (a:=⟨b1,o1 + k * 3,none⟩) hw1 e0
    have r1:=fun p:ExtW wr=>p.cell (a:=⟨b1,o1 + k * 3 + 1,none⟩) hw1 e1
    have r2:=fun p:ExtW wr=>p.cell (a:=⟨b1,o1 + k * 3 + 2,none⟩) hw1 e2
    have s0:=fun p:ExtW wr=>p.cell (a:=⟨b2,o2 + k * 3,none⟩) hw2 g0
    have s1:=fun p:ExtW wr=>p.cell (a:=⟨b2,o2 + k * 3 + 1,none⟩) hw2 g1
    have s2:=fun p:ExtW wr=>p.cell (a:=⟨b2,o2 + k * 3 + 2,none⟩) hw2 g2
    clear e0 e1 e2 g0 g1 g2
    cases q
    all_goals
     go_wp2_with fail
     refine qae (by kernel_rfl) (by kernel_rfl) ?_
     repeat (first | go_big_quiet_step ((go_at_call 150;exact Calls.ext_of (HC.out _ (qac HB.out (ExtW.h _))))) | quiet_step (fail))
     refine wpQuiet_nil ?_
     intro w' hw'
     obtain ⟨⟨W,hbW⟩,hw''⟩:=hw'
     have hw3:w'=W:=hw''
     subst hw3
     have HW:=hI (qac HB.out hbW)
     clear hbW hw'' r0 r1 r2 s0 s1 s2
     go_wp2
     first
      | (go_roundw
         case rel =>
          refine ⟨k + 1,by go_num,by omega,hI (fun j hj=>?_),HW⟩
          rcases Nat.lt_or_ge j k with h | h
          ·exact hall.out j h
          ·obtain rfl:j=k:=by omega
           exact HQ.out
         case measure=>simp [intOf];omega)
      | (go_ret
         exact ⟨qag (qsy k hlt HQ.out).symm,HW.out⟩)
   ·have hlt':decide ((k:Int) < (d1.size:Int))=false:=by simp;omega
    go_wp2
    go_ret
    exact ⟨qag (qek HS.out fun i hi=>hall.out i (by omega)).symm,HB.out⟩
 ·have hb:((d1.size:Int) != (d2.size:Int))=true:=by simp;omega
  have HF:Hid (allN d1.size d2.size p=false):=qsz hs
  clear hs
  go_enter Tryz.func104,Tryz.ntmps104
  go_wp2
  go_ret
  exact ⟨qag HF.out.symm,Below.refl _ _⟩
end Go.Proofs.YtnmojicfmcbgmaaGreatDoor
namespace Go.Proofs.YtnmojicfmcbgmaaGreatDoor
open Go.RowKit Go.Sort Go.Lib
set_option maxRecDepth 100000
def qhr (m:Array (RW Int)) (n:Int):Bool:=decide (3≤n∧n≤9) && decide ((m.size:Int)=n) && (List.range m.size).all fun i=>decide (qbl m[i]!.z n=0)
def qfx (m:Array (RW Int)) (n:Int):Int:=if qhr m n=true then 0 else 2
theorem qje {m:Array (RW Int)} {n:Int}:qhr m n=true↔(3≤n∧n≤9)∧(m.size:Int)=n∧∀ i,i < m.size→qbl m[i]!.z n=0:=by
 unfold qhr
 rw [Bool.and_eq_true,Bool.and_eq_true,decide_eq_true_eq,decide_eq_true_eq,List.all_eq_true]
 constructor
 ·rintro ⟨⟨h,h2⟩,g⟩;exact ⟨h,h2,fun i hi=>of_decide_eq_true (g i (List.mem_range.2 hi))⟩
 ·rintro ⟨h,h2,g⟩;exact ⟨⟨h,h2⟩,fun i hi=>decide_eq_true (g i (List.mem_range.1 hi))⟩
theorem qqz {m:Array (RW Int)} {n:Int} (h:3≤n∧n≤9) (h2:(m.size:Int)=n) (g:∀ i,i < m.size→qbl m[i]!.z n=0):qfx m n=0:=by
 unfold qfx;rw [if_pos (qje.2 ⟨h,h2,g⟩)]
theorem qvr {m:Array (RW Int)} {n:Int} (i:Nat) (hi:i < m.size) (h:qbl m[i]!.z n≠0):qfx m n=2:=by
 unfold qfx;rw [if_neg fun hc=>h ((qje.1 hc).2.2 i hi)]
theorem qra {m:Array (RW Int)} {n:Int} (h:¬ ((3≤n∧n≤9)∧(m.size:Int)=n)):qfx m n=2:=by
 unfold qfx;rw [if_neg fun hc=>h ⟨(qje.1 hc).1,(qje.1 hc).2.1⟩]
theorem qyn (m:Array (RW Int)) (n:Int):(qfx m n != 0) = !qhr m n:=by unfold qfx;cases qhr m n <;> rfl
theorem qnk (d:Array Int) (n:Int):qbl d n=0∨qbl d n=2:=by unfold qbl;split <;> simp
theorem qyo (n:Int):(qgh n == 0) = !decide (3≤n∧n≤9):=by
 unfold qgh
 by_cases h:n < 3∨9 < n
 ·rw [if_pos h,decide_eq_false (by omega)];rfl
 ·rw [if_neg h,decide_eq_true (by omega)];simp;omega
set_option maxHeartbeats 8000000 in
theorem qta (A:Option Addr) (c:Nat) (m:Array (RW Int)) (n:Int) (w:World) (h:RdK encW 1 w.heap.size w A m) (hh:∀ i,i < m.size→RdJ w m[i]!) (hs:m.size≤1000000) (hz:∀ i,i < m.size→m[i]!.z.size≤1000000) :
 Calls Tryz.prog 162 #[.slice A m.size c,.int .i64 n] w fun e w'=>e=.returned (.int .i64 (qfx m n))∧Below w.heap.size w w':=by
 have HR:=hI h
 have HP:Hid (∀ i,i < m.size→∀ W,Below w.heap.size w W→Calls Tryz.prog 163 #[.slice m[i]!.A m[i]!.z.size m[i]!.c,.int .i64 n] W fun e w'=>e=.returned (.int .i64 (qbl m[i]!.z n))∧Below W.heap.size W w'):=fun i hi W hb=>(qns m[i]!.A m[i]!.c m[i]!.z n _ W ((hh i hi).below hb).rd (by have:=hz i hi;omega)).mono fun e w' ⟨he,hw⟩=>⟨he,hw.mono (Nat.le_refl _)⟩
 clear h hh hz
 have hm:=qyo n
 by_cases hmn:(3≤n∧n≤9)∧(m.size:Int)=n
 rotate_left
 ·have HE:=hI (qra hmn)
  have HM:=hI hmn
  go_enter Tryz.func162,Tryz.ntmps162
  by_cases g1:3≤n∧n≤9
  ·rw [decide_eq_true g1] at hm
   have g2:((m.size:Int) != n)=true:=by simp;exact fun e=>hmn ⟨g1,e⟩
   clear hmn g1
   go_wp2_with (go_at_call 187;refine (qgi _ _).mono ?_;rintro _ _ ⟨rfl,rfl⟩)
   go_ret
   exact ⟨qaf HE.out.symm,Below.refl _ _⟩
  ·rw [decide_eq_false g1] at hm
   clear hmn g1
   go_wp2_with (go_at_call 187;refine (qgi _ _).mono ?_;rintro _ _ ⟨rfl,rfl⟩)
   go_ret
   exact ⟨qaf HE.out.symm,Below.refl _ _⟩
 ·have hn:=hmn.2
  have HM:=hI hmn.1
  have h2:((m.size:Int) != n)=false:=by simp [hn]
  rw [decide_eq_true hmn.1] at hm
  clear hmn
  have HN:=hI hn
  go_enter Tryz.func162,Tryz.ntmps162
  go_wp2_with (go_at_call 187;refine (qgi _ _).mono ?_;rintro _ _ ⟨rfl,rfl⟩)
  go_loopw [19] (fun i wr=>∃ k:Nat,i=.int .i64 k∧k≤m.size∧Hid (∀ j,j < k→qbl m[j]!.z n=0)∧Hid (Below w.heap.size w wr)) (fun i _=>m.size - (intOf i).toNat)
  case atStart=>exact ⟨0,rfl,Nat.zero_le _,hI (fun j hj=>absurd hj (by omega)),hI (Below.refl _ _)⟩
  case round =>
   obtain ⟨k,rfl,hk,hall,HB⟩:=hrel
   by_cases hlt:k < m.size
   ·have kz:(k:Int) < (m.size:Int):=by omega
    have kn:(k:Int) < n:=by omega
    obtain ⟨b,off,rfl,hbl,f⟩:=(HR.out.below HB.out).at_ (i:=k) (by omega)
    have e0:=f 0 (by omega)
    have HC:=hI (fun W hb=>HP.out k hlt W hb)
    have HNO:=hI (fun e:qbl m[k]!.z n≠0=>qvr (n:=n) k hlt e)
    have hq2:=qnk m[k]!.z n
    obtain ⟨x,hx⟩:∃ x,m[k]! = x:=⟨_,rfl⟩
    obtain ⟨q,hq⟩:∃ q,qbl m[k]!.z n=q:=⟨_,rfl⟩
    rw [hq] at HC HNO hq2
    rw [hx] at HC e0
    have HQ:=hI hq
    clear f hx hq
    simp only [Nat.add_zero,Nat.mul_one,encW,RW.v,List.getElem!_cons_zero] at e0
    rcases hq2 with rfl | rfl
    all_goals
     go_wp2_with fail
     refine (HC.out _ HB.out).mono ?_
     rintro e w' ⟨rfl,hbW⟩
     have HW:=hI (qac HB.out hbW)
     clear hbW
     go_wp2
     first
      | (go_roundw
         case rel =>
          refine ⟨k + 1,by go_num,by omega,hI (fun j hj=>?_),HW⟩
          rcases Nat.lt_or_ge j k with h | h
          ·exact hall.out j h
          ·obtain rfl:j=k:=by omega
           exact HQ.out
         case measure=>simp [intOf];omega)
      | (go_ret
         exact ⟨qaf (HNO.out (by decide)).symm,HW.out⟩)
   ·have hlt':decide ((k:Int) < (m.size:Int))=false:=by simp;omega
    have HF:Hid (qfx m n=0):=qqz HM.out HN.out fun i hi=>hall.out i (by omega)
    go_wp2
    go_ret
    exact ⟨qaf HF.out.symm,HB.out⟩
set_option maxHeartbeats 8000000 in
theorem rSw_any (A:Option Addr) (c:Nat) (m:Array (RW Int)) (n:Int) (w:World) (h:RdK encW 1 w.heap.size w A m) (hh:∀ i,i < m.size→RdJ w m[i]!) (hs:m.size≤1000000) (hz:∀ i,i < m.size→m[i]!.z.size≤1000000) :
 Calls Tryz.prog 125 #[.slice A m.size c,.int .i64 n] w fun e w'=>e=.returned (.int .i64 (qfx m n))∧Below w.heap.size w w':=by
 have HR:=hI h
 have HP:Hid (∀ i,i < m.size→∀ W,Below w.heap.size w W→Calls Tryz.prog 126 #[.slice m[i]!.A m[i]!.z.size m[i]!.c,.int .i64 n] W fun e w'=>e=.returned (.int .i64 (qbl m[i]!.z n))∧Below W.heap.size W w'):=fun i hi W hb=>(qkh m[i]!.A m[i]!.c m[i]!.z n _ W ((hh i hi).below hb).rd (by have:=hz i hi;omega)).mono fun e w' ⟨he,hw⟩=>⟨he,hw ▸ Below.refl _ _⟩
 clear h hh hz
 by_cases hmn:(3≤n∧n≤9)∧(m.size:Int)=n
 rotate_left
 ·have HE:=hI (qra hmn)
  go_enter Tryz.func125,Tryz.ntmps125
  by_cases g1:n < 3
  ·have g1':decide (n < 3)=true:=decide_eq_true g1
   clear hmn g1
   go_wp2
   go_ret
   exact ⟨qaf HE.out.symm,Below.refl _ _⟩
  ·have g1':decide (n < 3)=false:=decide_eq_false g1
   by_cases g2:9 < n
   ·have g2':decide (9 < n)=true:=decide_eq_true g2
    clear hmn g1 g2
    go_wp2
    go_ret
    exact ⟨qaf HE.out.symm,Below.refl _ _⟩
   ·have g2':decide (9 < n)=false:=decide_eq_false g2
    have g3:((m.size:Int) != n)=true:=by simp;exact fun e=>hmn ⟨by omega,e⟩
    clear hmn g1 g2
    go_wp2
    go_ret
    exact ⟨qaf HE.out.symm,Below.refl _ _⟩
 ·have hn:=hmn.2
  have HM:=hI hmn.1
  have h1:decide (n < 3)=false:=by simp;omega
  have h3:decide (9 < n)=false:=by simp;omega
  have h2:((m.size:Int) != n)=false:=by simp [hn]
  clear hmn
  have HN:=hI hn
  go_enter Tryz.func125,Tryz.ntmps125
  go_wp2
  go_loopw [5] (fun i wr=>∃ k:Nat,i=.int .i64 k∧k≤m.size∧Hid (∀ j,j < k→qbl m[j]!.z n=0)∧Hid (Below w.heap.size w wr)) (fun i _=>m.size - (intOf i).toNat)
  case atStart=>exact ⟨0,rfl,Nat.zero_le _,hI (fun j hj=>absurd hj (by omega)),hI (Below.refl _ _)⟩
  case round =>
   obtain ⟨k,rfl,hk,hall,HB⟩:=hrel
   by_cases hlt:k < m.size
   ·have kz:(k:Int) < (m.size:Int):=by omega
    have kn:(k:Int) < n:=by omega
    obtain ⟨b,off,rfl,hbl,f⟩:=(HR.out.below HB.out).at_ (i:=k) (by omega)
    have e0:=f 0 (by omega)
    have HC:=hI (fun W hb=>HP.out k hlt W hb)
    have HNO:=hI (fun e:qbl m[k]!.z n≠0=>qvr (n:=n) k hlt e)
    have hq2:=qnk m[k]!.z n
    obtain ⟨x,hx⟩:∃ x,m[k]! = x:=⟨_,rfl⟩
    obtain ⟨q,hq⟩:∃ q,qbl m[k]!.z n=q:=⟨_,rfl⟩
    rw [hq] at HC HNO hq2
    rw [hx] at HC e0
    have HQ:=hI hq
    clear f hx hq
    simp only [Nat.add_zero,Nat.mul_one,encW,RW.v,List.getElem!_cons_zero] at e0
    rcases hq2 with rfl | rfl
    all_goals
     go_wp2_with fail
     refine (HC.out _ HB.out).mono ?_
     rintro e w' ⟨rfl,hbW⟩
     have HW:=hI (qac HB.out hbW)
     clear hbW
     go_wp2
     first
      | (go_roundw
         case rel =>
          refine ⟨k + 1,by go_num,by omega,hI (fun j hj=>?_),HW⟩
          rcases Nat.lt_or_ge j k with h | h
          ·exact hall.out j h
          ·obtain rfl:j=k:=by omega
           exact HQ.out
         case measure=>simp [intOf];omega)
      | (go_ret
         exact ⟨qaf (HNO.out (by decide)).symm,HW.out⟩)
   ·have hlt':decide ((k:Int) < n)=false:=by simp;omega
    have HF:Hid (qfx m n=0):=qqz HM.out HN.out fun i hi=>hall.out i (by omega)
    go_wp2
    go_ret
    exact ⟨qaf HF.out.symm,HB.out⟩
set_option maxHeartbeats 4000000 in
theorem few18_any (A:Option Addr) (c:Nat) (m:Array (RW Int)) (w:World) (h:RdK encW 1 w.heap.size w A m) :
 Calls Tryz.prog 57 #[.slice A m.size c] w fun e w'=>e=.returned (.bool (fewM m))∧Below w.heap.size w w':=by
 have HR:=hI h
 clear h
 by_cases hs:m.size≤20
 ·have hs':decide ((20:Int) < (m.size:Int))=false:=decide_eq_false (by omega)
  go_enter Tryz.func57,Tryz.ntmps57
  go_wp2
  go_loopw [3] (fun i wr=>∃ k:Nat,i=.int .i64 k∧k≤m.size∧Hid (∀ j,j < k→m[j]!.z.size≤20)∧Hid (wr=w)) (fun i _=>m.size - (intOf i).toNat)
  case atStart=>exact ⟨0,rfl,Nat.zero_le _,hI (fun j hj=>absurd hj (by omega)),hI rfl⟩
  case round =>
   obtain ⟨k,rfl,hk,hall,hwr⟩:=hrel
   obtain rfl:=hwr.out
   by_cases hlt:k < m.size
   ·have kz:(k:Int) < (m.size:Int):=by omega
    obtain ⟨b,off,rfl,hbl,f⟩:=HR.out.at_ (i:=k) (by omega)
    have e0:=f 0 (by omega)
    obtain ⟨x,hx⟩:∃ x,m[k]! = x:=⟨_,rfl⟩
    rw [hx] at e0
    have HX:=hI hx
    clear f hx
    simp only [Nat.add_zero,Nat.mul_one,encW,RW.v,List.getElem!_cons_zero] at e0
    by_cases hz:x.z.size≤20
    ·have hz':decide ((20:Int) < (x.z.size:Int))=false:=decide_eq_false (by omega)
     have HZ:=hI hz
     clear hz
     go_wp2
     go_roundw
     case rel =>
      refine ⟨k + 1,by go_num,by omega,hI (fun j hj=>?_),by first | exact hI trivial | exact hI rfl⟩
      rcases Nat.lt_or_ge j k with h | h
      ·exact hall.out j h
      ·obtain rfl:j=k:=by omega
       rw [HX.out];exact HZ.out
     case measure=>simp [intOf];omega
    ·have hz':decide ((20:Int) < (x.z.size:Int))=true:=decide_eq_true (by omega)
     have HF:Hid (fewM m=false):=by
      show _=_
      rw [Bool.eq_false_iff]
      intro hc
      have:=(qhh.1 hc).2 k hlt
      rw [HX.out] at this
      exact hz this
     clear hz
     go_wp2
     go_ret
     exact ⟨qag HF.out.symm,Below.refl _ _⟩
   ·have hlt':decide ((k:Int) < (m.size:Int))=false:=by simp;omega
    have HF:Hid (fewM m=true):=qhh.2 ⟨hs,fun i hi=>hall.out i (by omega)⟩
    go_wp2
    go_ret
    exact ⟨qag HF.out.symm,Below.refl _ _⟩
 ·have hs':decide ((20:Int) < (m.size:Int))=true:=decide_eq_true (by omega)
  have HF:Hid (fewM m=false):=by
   show _=_
   rw [Bool.eq_false_iff]
   intro hc
   exact hs (qhh.1 hc).1
  clear hs
  go_enter Tryz.func57,Tryz.ntmps57
  go_wp2
  go_ret
  exact ⟨qag HF.out.symm,Below.refl _ _⟩
end Go.Proofs.YtnmojicfmcbgmaaGreatDoor
namespace Go.Proofs.YtnmojicfmcbgmaaGreatDoor
open Go.RowKit Go.Sort Go.Lib
set_option maxRecDepth 100000
def qeb (n f:Int):Prop:=3≤n∧n≤9∧1≤f∧2 * f≤n - 1
instance (n f:Int):Decidable (qeb n f):=by unfold qeb;infer_instance
def qlx (n f:Int):Int:=if qeb n f then 0 else 2
theorem qnl (n f:Int):(qlx n f != 0) = !decide (qeb n f):=by
 unfold qlx;by_cases h:qeb n f <;> simp [h]
theorem qtb (n f:Int) (w:World):Calls Tryz.prog 152 #[.int .i64 n,.int .i64 f] w fun e w'=>e=.returned (.int .i64 (qlx n f))∧w'=w:=by
 have hq:3≤n→Int.tdiv (n - 1) 2=(n - 1) / 2:=fun h=>Int.tdiv_eq_ediv_of_nonneg (by omega)
 by_cases g1:3≤n∧n≤9
 ·have hm:=qrn g1.1 g1.2
  have h1:=g1.1
  have h2:=g1.2
  have hq':=hq g1.1
  by_cases g2:qeb n f
  ·have HE:Hid (qlx n f=0):=by show _=_;unfold qlx;rw [if_pos g2]
   obtain ⟨_,_,a,b⟩:=g2
   have p1:decide (f < 1)=false:=by simp;omega
   have p2:decide ((n - 1) / 2 < f)=false:=by simp;omega
   clear a b g1 hq
   go_enter Tryz.func152,Tryz.ntmps152
   go_wp2_with (go_at_call 179;refine (qhl _ _).mono ?_;rintro _ _ ⟨rfl,rfl⟩)
   all_goals first
    | (go_ret;exact ⟨qaf HE.out.symm,rfl⟩)
    | (exfalso;omega)
  ·have HE:Hid (qlx n f=2):=by show _=_;unfold qlx;rw [if_neg g2]
   by_cases a:f < 1
   ·have p1:decide (f < 1)=true:=decide_eq_true a
    clear a g1 hq g2
    go_enter Tryz.func152,Tryz.ntmps152
    go_wp2_with (go_at_call 179;refine (qhl _ _).mono ?_;rintro _ _ ⟨rfl,rfl⟩)
    all_goals (go_ret;exact ⟨qaf HE.out.symm,rfl⟩)
   ·have p1:decide (f < 1)=false:=decide_eq_false a
    have p2:decide ((n - 1) / 2 < f)=true:=by
     unfold qeb at g2
     simp only [decide_eq_true_eq];omega
    clear a g1 hq g2
    go_enter Tryz.func152,Tryz.ntmps152
    go_wp2_with (go_at_call 179;refine (qhl _ _).mono ?_;rintro _ _ ⟨rfl,rfl⟩)
    all_goals first
     | (go_ret;exact ⟨qaf HE.out.symm,rfl⟩)
     | (exfalso;omega)
 ·have hm:=qwf (n:=n) (by omega)
  have HE:Hid (qlx n f=2):=by show _=_;unfold qlx;rw [if_neg];rintro ⟨a,b,_⟩;exact g1 ⟨a,b⟩
  clear g1 hq
  go_enter Tryz.func152,Tryz.ntmps152
  go_wp2_with (go_at_call 179;refine (qhl _ _).mono ?_;rintro _ _ ⟨rfl,rfl⟩)
  all_goals (go_ret;exact ⟨qaf HE.out.symm,rfl⟩)
theorem qrb (n top:Int) (w:World):Calls Tryz.prog 153 #[.int .i64 n,.int .i64 top] w fun e w'=>e=.returned (.bool (withB n top))∧w'=w:=by
 go_enter Tryz.func153,Tryz.ntmps153
 go_wp2
 all_goals
  go_ret
  exact ⟨qfo (by simp <;> omega),rfl⟩
def qib (r:RP):Bool:=decide (qeb r.n r.f) && decide (1≤r.self∧r.self≤r.n) && decide (0≤r.seq∧r.seq≤99999∧0≤r.ticks∧r.ticks≤1000000∧0≤r.count∧r.count≤1000000) && clkB r.clock r.floor r.o.z
def farB (r:RP) (i:Nat):Bool:=decide (r.n < qbf r.e.z[i]!.id)
def qtc (r:RP):Bool:=chkT r.e.z && !anyN r.e.z.size (farB r)
def qly (r:RP):Bool:=decide ((r.k.z.size:Int)=r.n) && !anyN r.k.z.size (fun i=>!chkB r.k.z[i]!.kn) && qhr r.m.z r.n && decide (qbl r.fr.z r.n=0)
def qlz (d:Array (Int×Int)):Bool:=(qaw d != 0) || (decide (0 < d.size) && decide (99999 < d[d.size - 1]!.2))
def lastB (t id:Int):Bool:=decide ((t=0∧id=0)∨((10≤id∧id≤999999∧id % 10≠0)∧1≤t∧t≤1000000))
def finB (r:RP):Bool:=decide ((r.d.z.size:Int)=r.n) && !anyN r.d.z.size (fun i=>qlz r.d.z[i]!.z) && lastB r.lt r.lid
def chkR (r:RP):Bool:=qib r && qtc r && qly r && finB r
def repE (r:RP):Int:=if chkR r=true then 0 else 2
theorem qyp (now floor:Int) (d:Array (Int×Int)):(clkE now floor d == 0)=clkB now floor d:=by unfold clkE;cases clkB now floor d <;> rfl
set_option maxHeartbeats 8000000 in
theorem qyq (r:RP) (w:World) (h:RdP w r) (hf:r.o.z.size≤1000000) :
 Calls Tryz.prog 112 #[.agg (encP r).toArray] w fun e w'=>e=.returned (.bool (qib r))∧Below w.heap.size w w':=by
 have HC:=hI (fun W (hb:Below w.heap.size w W)=>clk_any r.clock r.floor r.o.A r.o.c r.o.z W (h.o.below hb).rd hf)
 have hB:=hI (fun T=>bel1 w (.cells (encP r).toArray T))
 have hsz:=qnl r.n r.f
 have hck:=qyp r.clock r.floor r.o.z
 clear h hf
 simp only [encP] at hB ⊢
 go_enter Tryz.func112,Tryz.ntmps112
 go_wp2_with (first
  | (go_at_call 152;refine (qtb _ _ _).mono ?_;rintro _ _ ⟨rfl,rfl⟩)
  | (go_at_call 153;refine (qrb _ _ _).mono ?_;rintro _ _ ⟨rfl,rfl⟩)
  | (go_at_call 154;refine (HC.out _ (hB.out _)).mono ?_;rintro _ w1 ⟨rfl,hb⟩;have HW:=hI (qac (hB.out _) hb);clear hb))
 all_goals
  go_ret
  refine ⟨qag ?_,by first | exact HW.out | exact hB.out _⟩
  simp only [qib,withB,decide_eq_true_eq,decide_eq_false_iff_not] at *
  grind
end Go.Proofs.YtnmojicfmcbgmaaGreatDoor
namespace Go.Proofs.YtnmojicfmcbgmaaGreatDoor
open Go.RowKit Go.Sort Go.Lib
set_option maxRecDepth 100000
set_option maxHeartbeats 4000000 in
theorem enIdx (p:Nat→Bool) (g:Nat) (lb:Array Value) (eg:∀ args w,(callFunc g args).run Tryz.prog w=.ok (.enter g args) w) (A:Option Addr) (c:Nat) (d:Array (EN)) (w:World) (h:RdK encE 10 w.heap.size w A d) (hs:d.size≤1000000)
 (hp:∀ i,i < d.size→∀ W,Below w.heap.size w W→Calls Tryz.prog g (#[.agg (encE d[i]!).toArray] ++ lb) W fun e w'=>e=.returned (.bool (p i))∧Below W.heap.size W w') :
 Calls Tryz.prog 181 #[.slice A d.size c,.func (.func g) #[] lb] w fun e w'=>IdxQ p d.size e∧Below w.heap.size w w':=by
 have HR:=hI h
 have HP:=hI hp
 clear h hp
 go_enter Tryz.func181,Tryz.ntmps181
 go_wp2
 go_loopw [8] (fun i wr=>∃ k:Nat,i=.int .i64 k∧k≤d.size∧Hid (∀ j,j < k→p j=false)∧Hid (Below w.heap.size w wr)) (fun i _=>d.size - (intOf i).toNat)
 case atStart=>exact ⟨0,rfl,Nat.zero_le _,hI (fun j hj=>absurd hj (by omega)),hI (Below.refl _ _)⟩
 case round =>
  obtain ⟨k,rfl,hk,hall,HB⟩:=hrel
  by_cases hlt:k < d.size
  ·have kz:(k:Int) < (d.size:Int):=by omega
   obtain ⟨b,off,rfl,hbl,f⟩:=(HR.out.below HB.out).at_ (i:=k) (by omega)
   have e0:=f 0 (by omega)
   have e1:=f 1 (by omega)
   have e2:=f 2 (by omega)
   have e3:=f 3 (by omega)
   have e4:=f 4 (by omega)
   have e5:=f 5 (by omega)
   have e6:=f 6 (by omega)
   have e7:=f 7 (by omega)
   have e8:=f 8 (by omega)
   have e9:=f 9 (by omega)
   have HC:=hI (fun W hb=>HP.out k hlt W hb)
   obtain ⟨x,hx⟩:∃ x,d[k]! = x:=⟨_,rfl⟩
   obtain ⟨q,hq⟩:∃ q,p k=q:=⟨_,rfl⟩
   rw [hx,hq] at HC
   rw [hx] at e0 e1 e2 e3 e4 e5 e6 e7 e8 e9
   have HQ:=hI hq
   clear f hx hq
   simp only [Nat.add_zero,encE,List.getElem!_cons_zero,List.getElem!_cons_succ] at e0 e1 e2 e3 e4 e5 e6 e7 e8 e9 HC
   cases q
   ·go_wp2_with fail
    refine (HC.out _ HB.out).mono ?_
    rintro e w' ⟨rfl,hb'⟩
    have HB2:=hI (qac HB.out hb')
    clear hb'
    go_wp2
    go_roundw
    case rel =>
     refine ⟨k + 1,by go_num,by omega,hI (fun j hj=>?_),HB2⟩
     rcases Nat.lt_or_ge j k with h | h
     ·exact hall.out j h
     ·obtain rfl:j=k:=by omega
      exact HQ.out
    case measure=>simp [intOf];omega
   ·go_wp2_with fail
    refine (HC.out _ HB.out).mono ?_
    rintro e w' ⟨rfl,hb'⟩
    have HB2:=hI (qac HB.out hb')
    clear hb'
    go_wp2
    go_ret
    exact ⟨⟨k,rfl,Or.inl ⟨by omega,qkp k (by omega) HQ.out⟩⟩,HB2.out⟩
  ·have hlt':decide ((k:Int) < (d.size:Int))=false:=by simp;omega
   go_wp2
   go_ret
   exact ⟨⟨-1,rfl,Or.inr ⟨rfl,qoz fun j hj=>hall.out j (by omega)⟩⟩,HB.out⟩
set_option maxHeartbeats 2000000 in
theorem enCont (p:Nat→Bool) (g:Nat) (lb:Array Value) (eg:∀ args w,(callFunc g args).run Tryz.prog w=.ok (.enter g args) w) (A:Option Addr) (c:Nat) (d:Array (EN)) (w:World) (h:RdK encE 10 w.heap.size w A d) (hs:d.size≤1000000)
 (hp:∀ i,i < d.size→∀ W,Below w.heap.size w W→Calls Tryz.prog g (#[.agg (encE d[i]!).toArray] ++ lb) W fun e w'=>e=.returned (.bool (p i))∧Below W.heap.size W w') :
 Calls Tryz.prog 158 #[.slice A d.size c,.func (.func g) #[] lb] w fun e w'=>e=.returned (.bool (anyN d.size p))∧Below w.heap.size w w':=by
 have HI:=hI (enIdx p g lb eg A c d w h hs hp)
 clear h hp
 go_enter Tryz.func158,Tryz.ntmps158
 go_wp2_with fail
 refine HI.out.mono ?_
 rintro e w' ⟨⟨r,rfl,hr⟩,hb⟩
 have HB:=hI hb
 clear hb
 rcases hr with ⟨h1,h2⟩ | ⟨h1,h2⟩
 ·have h1':decide (0≤r)=true:=decide_eq_true h1
  go_wp2
  go_ret
  exact ⟨qag h2.symm,HB.out⟩
 ·subst h1
  go_wp2
  go_ret
  exact ⟨qag h2.symm,HB.out⟩
end Go.Proofs.YtnmojicfmcbgmaaGreatDoor
namespace Go.Proofs.YtnmojicfmcbgmaaGreatDoor
open Go.RowKit Go.Sort Go.Lib
set_option maxRecDepth 100000
set_option maxHeartbeats 4000000 in
theorem far_any (e:EN) (n:Int) (g:Nat) (w:World) (hg:g < w.heap.size) (hc:w.cell? ⟨g,0,none⟩=some (.int .i64 n)) :
 Calls Tryz.prog 155 #[.agg (encE e).toArray,.pointer (some ⟨g,0,none⟩)] w fun r w'=>r=.returned (.bool (decide (n < qbf e.id)))∧Below w.heap.size w w':=by
 have HS:Hid (∀ W,Calls Tryz.prog 156 #[.int .i64 e.id] W fun e' w'=>e'=.returned (.int .i64 (qbf e.id))∧Below W.heap.size W w'):=fun W=>(Self_any e.id W).mono fun _ _ ⟨he,hw⟩=>⟨he,hw ▸ Below.refl _ _⟩
 have HB:=hI (bel1 w (.cells (encE e).toArray 132))
 have h0:=heap_alloc_new w (.cells (encE e).toArray 132)
 have hq:(w.alloc (.cells (encE e).toArray 132)).cell? ⟨w.heap.size,0,none⟩=some (.int .i64 e.id):=qco w _ _ 0
 have hc':(w.alloc (.cells (encE e).toArray 132)).cell? ⟨g,0,none⟩=some (.int .i64 n):=(World.cell?_alloc_lt w _ _ hg).trans hc
 have hl:g < (w.alloc (.cells (encE e).toArray 132)).heap.size:=by simp;omega
 have hl2:w.heap.size < (w.alloc (.cells (encE e).toArray 132)).heap.size:=by simp
 simp only [encE] at HB hq hc' hl hl2 ⊢
 generalize qbf e.id=sf at HS ⊢
 clear hc h0
 go_enter Tryz.func155,Tryz.ntmps155
 go_wp2_with fail
 generalize w.alloc (.cells #[.int .i64 e.id,.int .i64 e.ph,.int .i64 e.qu,.int .i64 e.t,.int .i64 e.bal,.int .i64 e.abal,.int .i64 e.seen,.int .i64 e.age,.string e.pay,.slice e.A e.z.size e.c] 132)=w1 at HB hq hc' hl hl2 ⊢
 have a0:=fun p:ExtW w1=>p.cell (a:=⟨w.heap.size,0,none⟩) hl2 hq
 have b0:=fun p:ExtW w1=>p.cell (a:=⟨g,0,none⟩) hl hc'
 clear hq hc'
 refine qae (by kernel_rfl) (by kernel_rfl) ?_
 repeat (first | go_big_quiet_step ((go_at_call 156;exact Calls.ext_of (HS.out _))) | quiet_step ((go_at_call 156;exact Calls.ext_of (HS.out _))))
 refine wpQuiet_nil ?_
 intro wq hw'
 obtain ⟨⟨W,hbW⟩,hw''⟩:=hw'
 have hw3:wq=W:=hw''
 subst hw3
 have HBW:=hI (qac HB.out hbW)
 clear hbW hw'' a0 b0
 go_wp2
 go_ret
 exact ⟨rfl,HBW.out⟩
set_option maxHeartbeats 8000000 in
theorem cmds_any (r:RP) (w:World) (h:RdP w r) (hf:FewC r) :
 Calls Tryz.prog 113 #[.agg (encP r).toArray] w fun e w'=>e=.returned (.bool (qtc r))∧Below w.heap.size w w':=by
 have hs:r.e.z.size≤1000000:=by have:=hf.es;omega
 have HT:=hI (fun W (hb:Below w.heap.size w W)=>qxg r.e.A r.e.c r.e.z W ((h.below hb).tab hf))
 have HX:=hI (BoxW.init w (encP r).toArray 197)
 have HN:=hI (fun W (hb:BoxW w (encP r).toArray W)=>enCont (farB r) 155 #[.pointer (some ⟨w.heap.size,0,none⟩)] (enters_of Tryz.func155 (by kernel_rfl) rfl) r.e.A r.e.c r.e.z W (h.e.below hb.b).rd hs
  (fun i hi W' hb'=>far_any r.e.z[i]! r.n w.heap.size W' (Nat.lt_of_lt_of_le hb.lt hb'.size) ((hb.next hb').at_ 0)))
 have hck:=tabE_bool r.e.z
 clear h hf
 simp only [encP] at HX HN ⊢
 go_enter Tryz.func113,Tryz.ntmps113
 go_wp2_with (first
  | (go_at_call 157;refine (HT.out _ HX.out.b).mono ?_;rintro _ w1 ⟨rfl,hb⟩;have HX:=hI (HX.out.next hb);clear hb;have c7:=HX.out.at_ 7)
  | (go_at_call 158;refine (HN.out _ HX.out).mono ?_;rintro _ w1 ⟨rfl,hb⟩;have HX:=hI (HX.out.next hb);clear hb))
 all_goals
  go_ret
  refine ⟨qag ?_,HX.out.b⟩
  simp only [qtc] at *
  grind
set_option maxHeartbeats 4000000 in
theorem hear1_any (k:KE) (w:World) (h:RdKE w k) :
 Calls Tryz.prog 159 #[.agg (qcs k).toArray] w fun r w'=>r=.returned (.bool (!chkB k.kn))∧Below w.heap.size w w':=by
 have HC:=hI (fun W (hb:Below w.heap.size w W)=>qyk (.agg (qcs k).toArray) k.kn W (h.below hb).knV)
 have HB:=hI (bel1 w (.cells (qcs k).toArray 81))
 have hck:(chkE k.kn != 0) = !chkB k.kn:=by unfold chkE;cases chkB k.kn <;> rfl
 clear h
 simp only [qcs] at HC HB ⊢
 go_enter Tryz.func159,Tryz.ntmps159
 go_wp2_with fail
 refine (HC.out _ HB.out).mono ?_
 rintro e w' ⟨rfl,hb⟩
 have HW:=hI (qac HB.out hb)
 clear hb
 go_wp2
 go_ret
 exact ⟨rfl,HW.out⟩
set_option maxHeartbeats 4000000 in
theorem fin1_any (A:Option Addr) (c:Nat) (d:Array (Int×Int)) (w:World) (h:RdK encR 2 w.heap.size w A d) (hs:d.size≤1000000) :
 Calls Tryz.prog 164 #[.slice A d.size c] w fun r w'=>r=.returned (.bool (qlz d))∧Below w.heap.size w w':=by
 have HC:=hI (qka A c d w h)
 have HF:Hid (qlz d=((qaw d != 0) || (decide (0 < d.size) && decide (99999 < d[d.size - 1]!.2)))):=hI rfl
 have HR:=hI h
 clear h
 generalize qaw d=g at HC HF
 rcases Nat.eq_zero_or_pos d.size with h0 | h0
 ·obtain rfl:d=#[]:=Array.eq_empty_of_size_eq_zero h0
  have HF:Hid (qlz #[]=(g != 0)):=by show _=_;rw [HF.out];simp
  simp only [Array.size_empty] at HC ⊢
  clear h0 HR hs
  go_enter Tryz.func164,Tryz.ntmps164
  go_wp2_with fail
  refine HC.out.mono ?_
  rintro e w' ⟨rfl,hb⟩
  have HB:=hI hb
  clear hb
  go_wp2
  all_goals
   go_ret
   refine ⟨qag ?_,HB.out⟩
   rw [HF.out]
   grind
 ·have q0:decide ((0:Int) < (d.size:Int))=true:=by simp;omega
  rw [decide_eq_true h0] at HF
  obtain ⟨n,hn⟩:∃ n,n + 1=d.size:=⟨d.size - 1,by omega⟩
  have hsub:(d.size:Int) - 1=(n:Int):=by omega
  have hlt:(n:Int) < (d.size:Int):=by omega
  obtain ⟨b,off,rfl,hbl,f⟩:=HR.out.at_ (i:=n) (by omega)
  have e1:=f 1 (by omega)
  rw [show d.size - 1=n by omega] at HF
  generalize d[n]! = x at e1 HF
  simp only [encR,List.getElem!_cons_zero,List.getElem!_cons_succ] at e1
  clear f h0 hn
  go_enter Tryz.func164,Tryz.ntmps164
  go_wp2_with fail
  refine HC.out.mono ?_
  rintro e w' ⟨rfl,hb⟩
  have u1:=(hb.cell (p:=⟨b,off + n * 2 + 1,none⟩) hbl).trans e1
  have HB:=hI hb
  clear hb
  go_wp2
  all_goals
   go_ret
   refine ⟨qag ?_,HB.out⟩
   rw [HF.out]
   grind
theorem eqA_S (x y:Int×Int) (w:World):(binOp .eql 29 (.agg #[.int .i64 x.1,.int .i64 x.2]) (.agg #[.int .i64 y.1,.int .i64 y.2])).run Tryz.prog w=.ok (.bool (decide (x=y))) w:=by
 have hS:Tryz.prog.underlying 29 = some (.struct (Tryz.prog.fieldsOf 29)):=by kernel_rfl
 have hp:Tryz.prog.stoodInHeld 29 = false:=by kernel_rfl
 have u3:=Tryz.underlying3
 rw [run_eql_struct,show (10000:Nat)=9999 + 1 from rfl,run_equalIn_agg w 9999 29 _ _ hS hp]
 simp only [Program.fieldsOf,Tryz.underlying29]
 go_simp
 obtain ⟨x1,x2⟩:=x
 obtain ⟨y1,y2⟩:=y
 by_cases h1:x1=y1 <;> by_cases h2:x2=y2 <;> simp [h1,h2]
set_option maxHeartbeats 8000000 in
theorem hears_any (r:RP) (w:World) (h:RdP w r) (hf:FewC r) :
 Calls Tryz.prog 114 #[.agg (encP r).toArray] w fun e w'=>e=.returned (.bool (qly r))∧Below w.heap.size w w':=by
 have HX:=hI (BoxW.init w (encP r).toArray 197)
 have HN:=hI (fun W (hb:Below w.heap.size w W)=>keCont (fun i=>!chkB r.k.z[i]!.kn) 159 #[] (enters_of Tryz.func159 (by kernel_rfl) rfl) r.k.A r.k.c r.k.z W (h.k.below hb).rd (by have:=hf.k;omega)
  (fun i hi W' hb'=>hear1_any r.k.z[i]! W' (((h.kk i hi).below hb).below hb')))
 have HM:=hI (fun W (hb:Below w.heap.size w W)=>qta r.m.A r.m.c r.m.z r.n W (h.m.below hb).rd (fun i hi=>(h.mm i hi).below hb) (by have:=hf.m;omega) (fun i hi=>by have:=hf.mm i hi;omega))
 have HS:=hI (fun W (hb:Below w.heap.size w W)=>qns r.fr.A r.fr.c r.fr.z r.n _ W (h.fr.below hb).rd (by have:=hf.fr;omega))
 have hck:=qyn r.m.z r.n
 have hcm:(qfx r.m.z r.n == 0)=qhr r.m.z r.n:=by unfold qfx;cases qhr r.m.z r.n <;> rfl
 have hk20:(r.k.z.size:Int)≤20:=by have:=hf.k;omega
 clear h hf
 simp only [encP] at HX ⊢
 go_enter Tryz.func114,Tryz.ntmps114
 go_wp2_with (first
  | (go_at_call 161;refine (HN.out _ HX.out.b).mono ?_;rintro _ w1 ⟨rfl,hb⟩;have HX:=hI (HX.out.next hb);clear hb;have c0:=HX.out.at_ 0;have c10:=HX.out.at_ 10;have c11:=HX.out.at_ 11)
  | (go_at_call 162;refine (HM.out _ HX.out.b).mono ?_;rintro _ w2 ⟨rfl,hb⟩;have HX:=hI (HX.out.next hb);clear hb;have c0:=HX.out.at_ 0;have c11:=HX.out.at_ 11)
  | (go_at_call 163;refine (HS.out _ HX.out.b).mono ?_;rintro _ w3 ⟨rfl,hb⟩;have HX:=hI (HX.out.next hb);clear hb))
 all_goals
  go_ret
  refine ⟨qag ?_,HX.out.b⟩
  simp only [qly] at *
  grind
set_option maxHeartbeats 8000000 in
theorem fin_any (r:RP) (w:World) (h:RdP w r) (hf:FewC r) :
 Calls Tryz.prog 115 #[.agg (encP r).toArray] w fun e w'=>e=.returned (.bool (finB r))∧Below w.heap.size w w':=by
 have HX:=hI (BoxW.init w (encP r).toArray 197)
 have HN:=hI (fun W (hb:Below w.heap.size w W)=>rrCont (fun i=>qlz r.d.z[i]!.z) 164 #[] (enters_of Tryz.func164 (by kernel_rfl) rfl) r.d.A r.d.c r.d.z W (h.d.below hb).rd (by have:=hf.d;omega)
  (fun i hi W' hb'=>fin1_any r.d.z[i]!.A r.d.z[i]!.c r.d.z[i]!.z W' (((h.dd i hi).below hb).below hb').rd (by have:=hf.dd i hi;omega)))
 have hq:=fun W=>eqA_S (r.lt,r.lid) (0,0) W
 have hid:=qim r.lid
 have hid0:(qez r.lid == 0)=decide (10≤r.lid∧r.lid≤999999∧r.lid % 10≠0):=by
  have:(qez r.lid == 0) = !(qez r.lid != 0):=by simp [bne]
  rw [this,hid,Bool.not_not]
 have hd20:(r.d.z.size:Int)≤20:=by have:=hf.d;omega
 clear h hf hid
 simp only [encP] at HX ⊢
 go_enter Tryz.func115,Tryz.ntmps115
 go_wp2_with (first
  | (go_at_call 166;refine (HN.out _ HX.out.b).mono ?_;rintro _ w1 ⟨rfl,hb⟩;have HX:=hI (HX.out.next hb);clear hb;have c13:=HX.out.at_ 13;have c14:=HX.out.at_ 14)
  | (go_at_call 167;refine (qdj _ _).mono ?_;rintro _ _ ⟨rfl,rfl⟩))
 all_goals
  go_ret
  refine ⟨qag ?_,HX.out.b⟩
  simp only [finB,lastB] at *
  grind
end Go.Proofs.YtnmojicfmcbgmaaGreatDoor
namespace Go.Proofs.YtnmojicfmcbgmaaGreatDoor
open Go.RowKit Go.Sort Go.Lib
def AddQ (k:KN) (lo hi:Int) (atts:Array (Int×Int)) (r:KN) (c:Int):Prop:=(addB k lo hi atts=false∧r=⟨0,#[],#[]⟩∧c=2)∨(AddA k lo hi atts∧AddR k lo hi atts r∧c=0)
theorem AddQ.uniq {k:KN} {lo hi:Int} {atts:Array (Int×Int)} {r s:KN} {c d:Int} (h:AddQ k lo hi atts r c) (g:AddQ k lo hi atts s d):r=s∧c=d:=by
 rcases h with ⟨h0,rfl,rfl⟩ | ⟨h0,h1,rfl⟩
 ·rcases g with ⟨_,rfl,rfl⟩ | ⟨g0,_,_⟩
  ·exact ⟨rfl,rfl⟩
  ·rw [add_iff.2 g0] at h0
   cases h0
 ·rcases g with ⟨g0,_,_⟩ | ⟨_,g1,rfl⟩
  ·rw [add_iff.2 h0] at g0
   cases g0
  ·exact ⟨h1.uniq g1,rfl⟩
theorem qjx (k:KN):qqt k k=true:=qqu.2 rfl
end Go.Proofs.YtnmojicfmcbgmaaGreatDoor
namespace Go.Proofs.YtnmojicfmcbgmaaGreatDoor
open Go.RowKit Go.Sort Go.Lib
set_option maxRecDepth 100000
theorem qpa:(Tryz.prog.info? 26).map (fun i=>(i.zero,i.size,i.bytes))=some (some (.slice none 0 0),1,24):=by kernel_rfl
theorem qic {α:Type} [Inhabited α] {en:α→List Value} {k:Nat} {w:World} {base:Nat} {e:TypeId} {v:Value} {d:Array α} (h:w.ownsRow base e k v d.size (flatK en k d).toList):∃ x:RW α,v=x.v∧x.z=d∧RdW en k w x:=by
 have h':=h
 obtain ⟨A,c,hv,hr,hn⟩:=qid h
 obtain ⟨_,⟨h1,h0⟩ | ⟨g,cap,cur,h1,_,_,hnc,_⟩⟩:=h'
 ·rw [hv] at h1
  injection h1 with a b c'
  exact ⟨⟨A,c,d⟩,hv,rfl,hr,by show d.size≤c;omega,hn⟩
 ·rw [hv] at h1
  injection h1 with a b c'
  exact ⟨⟨A,c,d⟩,hv,rfl,hr,by show d.size≤c;omega,hn⟩
theorem flat_W {α:Type} [Inhabited α] (z:Array (RW α)):(flatK encW 1 z).toList=z.toList.map RW.v:=by
 apply List.ext_getElem?
 intro t
 rw [Array.getElem?_toList]
 by_cases h:t < z.size
 ·have h1:t < (flatK encW 1 z).size:=by rw [size_flatK];omega
  have h2:=get_flatK encW 1 z t (by omega)
  rw [getElem!_pos _ t h1,Nat.mod_one,Nat.div_one,getElem!_pos z t h] at h2
  rw [Array.getElem?_eq_getElem h1,h2,List.getElem?_map,Array.getElem?_toList,Array.getElem?_eq_getElem h]
  rfl
 ·rw [Array.getElem?_eq_none (by rw [size_flatK];omega),List.getElem?_eq_none (by simp;omega)]
theorem qma {w:World} {base:Nat} {e:TypeId} {v:Value} {l:List Int} (h:w.ownsRow base e 1 v l.length (l.map (Value.int .i64))):∃ x:RW Int,v=x.v∧x.z=l.toArray∧RdJ w x:=by
 have h':=h
 obtain ⟨A,cc,hv,hr⟩:=qdm h
 have hv0:v=(⟨A,cc,l.toArray⟩:RW Int).v:=by rw [hv];simp [RW.v]
 obtain ⟨_,⟨hv2,h0⟩ | ⟨g,cap,cur,hv2,_,_,hnc,_⟩⟩:=h'
 ·rw [hv] at hv2
  injection hv2 with a b e3
  exact ⟨⟨A,cc,l.toArray⟩,hv0,rfl,⟨hr,by show l.toArray.size≤cc;simp;omega,fun _=>e3⟩⟩
 ·rw [hv] at hv2
  injection hv2 with a b e3
  exact ⟨⟨A,cc,l.toArray⟩,hv0,rfl,⟨hr,by show l.toArray.size≤cc;simp;omega,fun h=>by rw [a] at h;cases h⟩⟩
theorem qrc {α:Type} [Inhabited α] {w:World} {base:Nat} {e:TypeId} {v:Value} {z:Array (RW α)} (h:w.ownsRow base e 1 v z.size (z.toList.map RW.v)):∃ x:RW (RW α),v=x.v∧x.z=z∧RdW encW 1 w x :=
 qic (by rw [flat_W];exact h)
theorem own_snoc' {w:World} {base:Nat} {e:TypeId} {v:Value} {l:List Value} {x:Value} (h:w.ownsRow base e 1 v (l.length + 1) (l ++ [x])):w.ownsRow base e 1 v (l ++ [x]).length (l ++ [x]):=by
 simpa using h
theorem own_monoB {w:World} {b b':Nat} {e:TypeId} {s n:Nat} {v:Value} {xs:List Value} (h:w.ownsRow b e s v n xs) (hb:b'≤b):w.ownsRow b' e s v n xs:=by
 obtain ⟨h0,h1 | ⟨g,cap,cur,hv,hB,hh,hr⟩⟩:=h
 ·exact ⟨h0,Or.inl h1⟩
 ·exact ⟨h0,Or.inr ⟨g,cap,cur,hv,Nat.le_trans hb hB,hh,hr⟩⟩
theorem qhi {w W:World} {B s n:Nat} {e:TypeId} {v:Value} {xs:List Value} (h:w.ownsRow B e s v n xs) (hb:Below w.heap.size w W):W.ownsRow B e s v n xs:=by
 obtain ⟨h0,h1 | ⟨g,cap,cur,hv,hB,hh,hr⟩⟩:=h
 ·exact ⟨h0,Or.inl h1⟩
 ·exact ⟨h0,Or.inr ⟨g,cap,cur,hv,hB,(hb.block g (Array.getElem?_eq_some_iff.1 hh).1).trans hh,hr⟩⟩
theorem qer {w w':World} {B B2 s s2 n n2:Nat} {e e2:TypeId} {v v2:Value} {xs xs2:List Value} (h:w.ownsRow B e s v n xs) (h2:w.ownsRow B2 e2 s2 v2 n2 xs2) (hne:e≠e2) (hg:w.grownBy w' v.ownBlock):w'.ownsRow B2 e2 s2 v2 n2 xs2:=by
 refine h2.kept hg ?_
 obtain ⟨_,⟨rfl,_⟩ | ⟨g2,_,_,rfl,_,hh2,_⟩⟩:=h2
 ·exact Or.inl rfl
 ·right
  intro hc
  obtain ⟨_,⟨rfl,_⟩ | ⟨g,_,_,rfl,_,hh,_⟩⟩:=h
  ·cases hc
  ·have hc':g2=g:=by simpa [Value.ownBlock] using hc
   subst hc'
   rw [hh] at hh2
   injection hh2 with a
   injection a with b c
   exact hne c
def RdMM (w:World) (x:RW (RW Int)):Prop:=RdW encW 1 w x∧∀ i,i < x.z.size→RdJ w x.z[i]!
theorem RdMM.below {w w':World} {x:RW (RW Int)} (h:RdMM w x) (hb:Below w.heap.size w w'):RdMM w' x:=⟨h.1.below hb,fun i hi=>(h.2 i hi).below hb⟩
def NewM (k:Nat) (z:Array (RW Int)):Prop:=z.size=k∧∀ i,i < k→z[i]!.z=(List.replicate k 0).toArray
theorem qhj {w W:World} {B B0 s n:Nat} {e:TypeId} {v:Value} {xs:List Value} (h:w.ownsRow B e s v n xs) (hB:B0≤B) (ho:∀ j,B0≤j→j < w.heap.size→W.heap[j]?=w.heap[j]?):W.ownsRow B e s v n xs:=by
 obtain ⟨h0,h1 | ⟨g,cap,cur,hv,hg,hh,hr⟩⟩:=h
 ·exact ⟨h0,Or.inl h1⟩
 ·exact ⟨h0,Or.inr ⟨g,cap,cur,hv,hg,(ho g (by omega) (Array.getElem?_eq_some_iff.1 hh).1).trans hh,hr⟩⟩
def zs (k:Nat):List Int:=List.replicate k 0
theorem zs_len (k:Nat):(zs k).length=k:=by simp [zs]
theorem zs_succ (k:Nat):zs (k + 1)=zs k ++ [0]:=List.replicate_succ'
def OwnZ (B:Nat) (W:World) (v:Value) (k:Nat):Prop:=∃ L:List Value,L.length=k∧W.ownsRow B 26 1 v L.length L∧∀ u ∈ L,W.ownsRow B 3 1 u (zs k).length ((zs k).map (Value.int .i64))
theorem OwnZ.same {B:Nat} {w W:World} {v:Value} {k:Nat} (h:OwnZ B w v k) (ho:∀ j,B≤j→j < w.heap.size→W.heap[j]?=w.heap[j]?):OwnZ B W v k:=by
 obtain ⟨L,hl,h1,h2⟩:=h
 exact ⟨L,hl,qhj h1 (Nat.le_refl _) ho,fun u hu=>qhj (h2 u hu) (Nat.le_refl _) ho⟩
theorem OwnZ.rd {B:Nat} {W:World} {v:Value} {k:Nat} (h:OwnZ B W v k):∃ x:RW (RW Int),v=x.v∧NewM k x.z∧RdMM W x:=by
 obtain ⟨L,hl,ho,hu⟩:=h
 have hx:∀ i,i < k→∃ x:RW Int,L[i]?=some x.v∧x.z=(List.replicate k 0).toArray∧RdJ W x:=fun i hi=>by
  have hi':i < L.length:=by omega
  obtain ⟨x,e,hz,hr⟩:=qma (hu L[i] (List.getElem_mem hi'))
  exact ⟨x,by rw [List.getElem?_eq_getElem hi',e],hz,hr⟩
 obtain ⟨f,hf⟩:=Go.Deep.choose_lt hx
 have hsz:((List.range k).map f).toArray.size=k:=by simp
 have hget:∀ i,i < k→((List.range k).map f).toArray[i]! = f i:=fun i hi=>by simp [hi]
 have hL:((List.range k).map f).toArray.toList.map RW.v=L:=by
  apply List.ext_getElem?
  intro i
  rcases Nat.lt_or_ge i k with hi | hi
  ·rw [(hf i hi).1]
   simp [hi]
  ·rw [List.getElem?_eq_none (by simpa using hi),List.getElem?_eq_none (by omega)]
 obtain ⟨x,e,hz,hr⟩:=qrc (z:=((List.range k).map f).toArray) (by rw [hL,hsz,←hl];exact ho)
 refine ⟨x,e,?_,hr,fun i hi=>?_⟩
 ·rw [hz]
  exact ⟨hsz,fun i hi=>by rw [hget i hi];exact (hf i hi).2.1⟩
 ·rw [hz] at hi ⊢
  rw [hsz] at hi
  rw [hget i hi]
  exact (hf i hi).2.2
set_option maxHeartbeats 4000000 in
theorem rSwNew_ok (k:Nat) (w:World) (h3:3≤k) (h9:k≤9):Calls Tryz.prog 61 #[.int .i64 k] w fun e w'=>(∃ v,e=.returned (.tuple #[v,.int .i64 0])∧OwnZ w.heap.size w' v k)∧Below w.heap.size w w':=by
 obtain ⟨i0,hi0,hz0,hz1,hz2⟩:=info_parts qpa
 obtain ⟨j0,hj0,hy0,hy1,hy2⟩:=info_parts qnt
 have e1:decide ((k:Int) < 3)=false:=decide_eq_false (by omega)
 have e2:decide (9 < (k:Int))=false:=decide_eq_false (by omega)
 go_enter Tryz.func61,Tryz.ntmps61
 go_wp2
 go_loopw [4,5] (fun v i wr=>∃ (j:Nat) (L:List Value),i=.int .i64 j∧j≤k∧L.length=j∧wr.ownsRow w.heap.size 26 1 v L.length L∧Hid (∀ u ∈ L,wr.ownsRow w.heap.size 3 1 u (zs k).length ((zs k).map (Value.int .i64)))∧Hid (Below w.heap.size w wr)) (fun _ i _=>k - (intOf i).toNat)
 case atStart=>exact ⟨0,[],rfl,Nat.zero_le _,rfl,World.ownsRow_nil _ _ _ _,hI (fun u hu=>by cases hu),hI (Below.refl _ _)⟩
 case round =>
  obtain ⟨j,L,rfl,hj,hl,hown,HU,HB⟩:=hrel
  by_cases hlt:j < k
  ·have kz:(j:Int) < (k:Int):=by omega
   have hBs:=HB.out.size
   go_wp2
   obtain ⟨wo,rfl⟩:∃ W,W=wr:=⟨_,rfl⟩
   go_loopw [6,7] (fun r m wi=>∃ p:Nat,m=.int .i64 p∧p≤k∧wi.ownsRow wo.heap.size 3 1 r (zs p).length ((zs p).map (Value.int .i64))∧Hid (Below wo.heap.size wo wi)) (fun _ m _=>k - (intOf m).toNat)
   case atStart=>exact ⟨0,rfl,Nat.zero_le _,World.ownsRow_nil _ _ _ _,hI (Below.refl _ _)⟩
   case round =>
    obtain ⟨p,rfl,hp,hrow,HI⟩:=hrel
    have hIs:=HI.out.size
    by_cases hlp:p < k
    ·have pz:(p:Int) < (k:Int):=by omega
     have hpl:=zs_len p
     go_wp2_with (at_builtin;refine wpList_append_own _ rfl _ _ 26 rfl wo.heap.size 3 j0 (.int .i64 0) 1 8 Tryz.underlying26 hj0 hy0 hy1 hy2 rfl (by decide) _ _ _ rfl (World.ownsRow.alloc hrow _) ⟨wr.heap.size,0,none⟩ 1 1 [.int .i64 0] rfl rfl (qwg _ _ _) (by simp [Value.oneCell']) (by unfold maxLen;omega) (by omega) (by simp;omega) ?_;intro v' w3 hown3 hgrow _)
     go_roundw
     case rel=>exact ⟨p + 1,by go_num,by omega,by rw [zs_succ];exact own_snoc hown3,hI (qrp HI.out hrow hgrow)⟩
     case measure=>simp [intOf];omega
    ·have hlt':decide ((p:Int) < (k:Int))=false:=decide_eq_false (by omega)
     obtain rfl:p=k:=by omega
     have hout:=qhi hown HI.out
     have hrow2:=own_monoB hrow hBs
     obtain ⟨UA,un,uc,rfl⟩:∃ A n c,u6=Value.slice A n c:=by
      obtain ⟨_,⟨e,_⟩ | ⟨_,_,_,e,_⟩⟩:=hrow2
      ·exact ⟨_,_,_,e⟩
      ·exact ⟨_,_,_,e⟩
     have HU2:=hI (fun u hu=>qhi (HU.out u hu) HI.out)
     have HB2:=hI (qac HB.out HI.out)
     clear HU HB HI hown hrow
     go_wp2_with (at_builtin;refine wpList_append_own _ rfl _ _ 25 rfl w.heap.size 26 i0 (.slice none 0 0) 1 24 Tryz.underlying25 hi0 hz0 hz1 hz2 rfl (by decide) _ _ _ rfl (World.ownsRow.alloc hout _) ⟨wr.heap.size,0,none⟩ 1 1 [.slice UA un uc] rfl rfl (qwg _ _ _) (by simp [Value.oneCell']) (by unfold maxLen;omega) (by omega) (by simp;omega) ?_;intro v' w3 hown3 hgrow _)
     have hne:(26 : TypeId)≠3:=by decide
     have HK:=hI (qer (hout.alloc _) (hrow2.alloc _) hne hgrow)
     have HV:=hI (fun u hu=>qer (hout.alloc _) ((HU2.out u hu).alloc _) hne hgrow)
     go_roundw
     case rel =>
      refine ⟨j + 1,L ++ [_],by go_num,by omega,by simp [hl],own_snoc' hown3,hI (fun u hu=>?_),hI (qrp HB2.out hout hgrow)⟩
      rcases List.mem_append.1 hu with h | h
      ·exact HV.out u h
      ·rw [List.mem_singleton.1 h];exact HK.out
     case measure=>simp [intOf];omega
  ·have hlt':decide ((j:Int) < (k:Int))=false:=decide_eq_false (by omega)
   obtain rfl:j=k:=by omega
   go_wp2
   go_ret2
   exact ⟨⟨_,rfl,L,hl,hown,HU.out⟩,HB.out⟩
end Go.Proofs.YtnmojicfmcbgmaaGreatDoor
namespace Go.Proofs.YtnmojicfmcbgmaaGreatDoor
open Go.RowKit Go.Sort Go.Lib
theorem grow_add {k r:KN} {lo hi:Int} {atts:Array (Int×Int)} (h:AddA k lo hi atts) (hr:AddR k lo hi atts r) (hz:k.ats.size + atts.size≤400):ChkP r∧k.base≤r.base∧r.ats.size≤k.ats.size + atts.size∧∀ t,inR k.rs t=true→hasK r t=true:=by
 obtain ⟨l,h1,_,h3⟩:=hr.ok h hz
 refine ⟨h3.chk,h3.up,?_,fun t ht=>?_⟩
 ·rw [h3.eat]
  exact qqv k atts
 ·rw [h3.has]
  exact Or.inr ((h1.2 t).trans (qvm.2 (Or.inl ht)))
theorem grow_set {k s:KN} {ids:Array Int} (h:ChkP k) (hs:SetR k ids s):ChkP s∧k.base≤s.base∧∀ t,inR k.rs t=true→hasK s t=true:=by
 obtain ⟨l,h1,_,h3⟩:=hs.ok h
 refine ⟨h3.chk,h3.up,fun t ht=>?_⟩
 rw [h3.has]
 exact Or.inr ((h1.2 t).trans (qvo.2 (Or.inl ht)))
end Go.Proofs.YtnmojicfmcbgmaaGreatDoor
namespace Go.Proofs.YtnmojicfmcbgmaaGreatDoor
open Go.RowKit Go.Sort Go.Lib
theorem own_mark {k0 k1 k2:KN} {lo hi:Int} {atts:Array (Int×Int)} {ids:Array Int} (hA:AddA k0 lo hi atts) (h1:AddR k0 lo hi atts k1) (hz:k0.ats.size + atts.size≤400) (h2:SetR k1 ids k2) (he:k2.ats.size=0) (hl:lo≤k0.base):hi≤k2.base:=by
 obtain ⟨l1,i1,_,f1⟩:=h1.ok hA hz
 obtain ⟨l2,i2,_,f2⟩:=h2.ok f1.chk
 refine Classical.byContradiction fun hc=>?_
 have hb1:=f1.up
 have hb2:=f2.up
 have n2:=f2.nx
 have p2:pS k1 ids (k2.base + 1)=false:=(i2.2 _).symm.trans n2
 have q1:inR k1.rs (k2.base + 1)=false:=by
  rw [Bool.eq_false_iff]
  exact fun h=>(Bool.eq_false_iff.1 p2) (qvo.2 (Or.inl h))
 have q2:inR l1 (k2.base + 1)=false:=by
  rw [f1.out] at q1
  have:decide (k1.base < k2.base + 1)=true:=decide_eq_true (by omega)
  rwa [this,Bool.and_true] at q1
 have q3:pK k0 lo hi atts (k2.base + 1)=false:=(i1.2 _).symm.trans q2
 have q4:inR k0.rs (k2.base + 1)=false:=by
  rw [Bool.eq_false_iff]
  exact fun h=>(Bool.eq_false_iff.1 q3) (qvm.2 (Or.inl h))
 have q5:∃ x ∈ k1.ats.toList,x.1=k2.base + 1:=by
  rw [f1.eat]
  by_cases ht:k2.base + 1 ∈ qeq k0.ats.toList
  ·obtain ⟨x,hx,e⟩:=List.mem_map.1 ht
   exact ⟨x,qjb.2 (Or.inl hx),e⟩
  ·by_cases hu:k2.base + 1 ∈ qeq atts.toList
   ·obtain ⟨x,hx,e⟩:=List.mem_map.1 hu
    have e':x.1=k2.base + 1:=e
    exact ⟨x,qjb.2 (Or.inr ⟨hx,by omega,by rw [e'];exact q4,by rw [e'];exact ht⟩),e'⟩
   ·exact absurd (qvm.2 (Or.inr ⟨⟨by omega,by omega⟩,hu,ht⟩)) (Bool.eq_false_iff.1 q3)
 obtain ⟨x,hx,e⟩:=q5
 have hs:k2.ats=qyg k1 ids:=f2.eat
 have hd:qqw ids x=true:=by
  cases hd:qqw ids x
  ·have hm:x ∈ (qyg k1 ids).toList:=by
    show x ∈ List.filter _ _
    exact List.mem_filter.2 ⟨hx,by rw [hd];rfl⟩
   rw [←hs] at hm
   have:k2.ats.toList=[]:=by
    rw [Array.size_eq_zero_iff.1 he]
   rw [this] at hm
   cases hm
  ·rfl
 refine (Bool.eq_false_iff.1 p2) (qvo.2 (Or.inr ⟨x,hx,?_,e⟩))
 unfold qqw at hd
 simpa using hd
end Go.Proofs.YtnmojicfmcbgmaaGreatDoor
