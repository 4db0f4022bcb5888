/- Texts that the law leans on. -/
import Derived.Deep.Fields
import Derived.Deep.Slices
import Derived.Lib.SmallJoins
import Derived.Test.YtlkmagmdhopcjaaGreatMDelA
import Derived.Test.YtlkmagmdhopcjaaGreatMLaw
import Derived.Test.YtlkmagmdhopcjaaGreatMBase
import Derived.Test.YtlkmagmdhopcjaaGreatMRead
import Derived.Test.YtlkmagmdhopcjaaGreatMRangesM
import Derived.Test.YtlkmagmdhopcjaaGreatMEnC
import Derived.Test.YtlkmagmdhopcjaaGreatMClkB
import Derived.Deep.AppendLies
import Derived.Deep.CutRange
import Derived.Deep.CutBlock
import Derived.Deep.RegionHeld3
import Derived.Test.YtlkmagmdhopcjaaGreatMSortK
import Derived.Test.YtlkmagmdhopcjaaGreatMIdentB
import Derived.Maps.AppendAt
import Derived.Test.YtlkmagmdhopcjaaGreatMKnP
namespace Go.Proofs.YtlkmagmdhopcjaaGreat
open Go.ChangeShapes Go.WideShapes Go.ChangeAt Go.RowKit Go.Deep Go.Joins
section
variable {H:Type} {enc:TypeId×Value→H} {P:Program} {w:World}
end
def fewK (k:KN):Bool:=decide (k.rs.size≤100) && decide (k.ats.size≤100)
theorem qpm {k:KN}:fewK k=true↔k.rs.size≤100∧k.ats.size≤100:=by unfold fewK;simp
set_option maxRecDepth 100000 in
set_option maxHeartbeats 1000000 in
theorem Few16_any (v:Value) (k:KN) (w:World) (h:KnV w v k):Calls Tryz.prog 22 #[v] w fun e w'=>e=.returned (.bool (fewK k))∧Below w.heap.size w w':=by
 obtain ⟨base,rs,ats⟩:=k
 obtain ⟨A1,c1,A2,c2,rfl,_⟩:=h
 have HF:Hid (fewK ⟨base,rs,ats⟩=(decide (rs.size≤100) && decide (ats.size≤100))):=hI rfl
 by_cases h1:rs.size≤100
 ·have q1:decide ((rs.size:Int)≤100)=true:=decide_eq_true (by omega)
  by_cases h2:ats.size≤100
  ·have q2:decide ((ats.size:Int)≤100)=true:=decide_eq_true (by omega)
   have HE:Hid (fewK ⟨base,rs,ats⟩=true):=by show _=_;rw [HF.out];simp [h1,h2]
   clear h1 h2
   go_enter Tryz.func22,Tryz.ntmps22
   go_wp2
   go_ret
   exact ⟨qac HE.out.symm,bel1 w _⟩
  ·have q2:decide ((ats.size:Int)≤100)=false:=decide_eq_false (by omega)
   have HE:Hid (fewK ⟨base,rs,ats⟩=false):=by show _=_;rw [HF.out];simp [h2]
   clear h1 h2
   go_enter Tryz.func22,Tryz.ntmps22
   go_wp2
   go_ret
   exact ⟨qac HE.out.symm,bel1 w _⟩
 ·have q1:decide ((rs.size:Int)≤100)=false:=decide_eq_false (by omega)
  have HE:Hid (fewK ⟨base,rs,ats⟩=false):=by show _=_;rw [HF.out];simp [h1]
  clear h1
  go_enter Tryz.func22,Tryz.ntmps22
  go_wp2
  go_ret
  exact ⟨qac HE.out.symm,bel1 w _⟩
end Go.Proofs.YtlkmagmdhopcjaaGreat
namespace Go.Proofs.YtlkmagmdhopcjaaGreat
open Go.RowKit Go.Sort Go.Lib
structure RdW {α:Type} [Inhabited α] (en:α→List Value) (k:Nat) (w:World) (x:RW α):Prop where
 rd:RdK en k w.heap.size w x.A x.z
 cz:x.z.size≤x.c
 no:x.A=none→x.c=0
theorem RdW.below {α:Type} [Inhabited α] {en:α→List Value} {k:Nat} {w w':World} {x:RW α} (h:RdW en k w x) (hb:Below w.heap.size w w'):RdW en k w' x:=⟨(h.rd.below hb).mono hb.size,h.cz,h.no⟩
def KE.kn (k:KE):KN:=⟨k.base,k.r.z,k.a.z⟩
structure RdN {α:Type} [Inhabited α] (en:α→List Value) (k:Nat) (w:World) (x:RW α):Prop where
 rd:RdK en k w.heap.size w x.A x.z
 no:x.A=none→x.c=0
theorem RdN.below {α:Type} [Inhabited α] {en:α→List Value} {k:Nat} {w w':World} {x:RW α} (h:RdN en k w x) (hb:Below w.heap.size w w'):RdN en k w' x:=⟨(h.rd.below hb).mono hb.size,h.no⟩
structure RdKE (w:World) (k:KE):Prop where
 r:RdN encR 2 w k.r
 a:RdN qaf 2 w k.a
theorem RdKE.below {w w':World} {k:KE} (h:RdKE w k) (hb:Below w.heap.size w w'):RdKE w' k:=⟨h.r.below hb,h.a.below hb⟩
theorem RdKE.knV {w:World} {k:KE} (h:RdKE w k):KnV w (.agg (qaz k).toArray) k.kn:=⟨k.r.A,k.r.c,k.a.A,k.a.c,rfl,h.r.rd,h.a.rd,h.r.no,h.a.no⟩
structure RdJ (w:World) (x:RW Int):Prop where
 rd:RdI_R w.heap.size w x.A x.z
 cz:x.z.size≤x.c
 no:x.A=none→x.c=0
theorem RdJ.below {w w':World} {x:RW Int} (h:RdJ w x) (hb:Below w.heap.size w w'):RdJ w' x:=⟨(h.rd.below hb).mono hb.size,h.cz,h.no⟩
structure RdP (w:World) (r:RP):Prop where
 e:RdT0 w r.e.A r.e.z
 o:RdN qaf 2 w r.o
 k:RdW qaz 3 w r.k
 kk:∀ i,i < r.k.z.size→RdKE w r.k.z[i]!
 m:RdW encW 1 w r.m
 mm:∀ i,i < r.m.z.size→RdJ w r.m.z[i]!
 fr:RdJ w r.fr
 d:RdW encW 1 w r.d
 dd:∀ i,i < r.d.z.size→RdW encR 2 w r.d.z[i]!
 it:RdW encIT 4 w r.it
 ss:RdW encSS 3 w r.ss
theorem RdP.below {w w':World} {r:RP} (h:RdP w r) (hb:Below w.heap.size w w'):RdP w' r :=
 ⟨h.e.below hb,h.o.below hb,h.k.below hb,fun i hi=>(h.kk i hi).below hb,h.m.below hb,fun i hi=>(h.mm i hi).below hb,h.fr.below hb,h.d.below hb,fun i hi=>(h.dd i hi).below hb,h.it.below hb,h.ss.below hb⟩
def fewM (m:Array (RW Int)):Bool:=decide (m.size≤20) && (List.range m.size).all fun i=>decide (m[i]!.z.size≤20)
theorem qgp {m:Array (RW Int)}:fewM m=true↔m.size≤20∧∀ i,i < m.size→m[i]!.z.size≤20:=by
 unfold fewM
 rw [Bool.and_eq_true,decide_eq_true_eq,List.all_eq_true]
 constructor
 ·rintro ⟨h,g⟩;exact ⟨h,fun i hi=>of_decide_eq_true (g i (List.mem_range.2 hi))⟩
 ·rintro ⟨h,g⟩;exact ⟨h,fun i hi=>decide_eq_true (g i (List.mem_range.1 hi))⟩
def fewKs (k:Array KE):Bool:=(List.range k.size).all fun i=>fewK k[i]!.kn
theorem fewKs_iff {k:Array KE}:fewKs k=true↔∀ i,i < k.size→fewK k[i]!.kn=true:=by
 unfold fewKs;rw [List.all_eq_true]
 exact ⟨fun g i hi=>g i (List.mem_range.2 hi),fun g i hi=>g i (List.mem_range.1 hi)⟩
def fewD (d:Array (RW (Int×Int))):Bool:=(List.range d.size).all fun i=>decide (d[i]!.z.size≤100)
theorem fewD_iff {d:Array (RW (Int×Int))}:fewD d=true↔∀ i,i < d.size→d[i]!.z.size≤100:=by
 unfold fewD;rw [List.all_eq_true]
 exact ⟨fun g i hi=>of_decide_eq_true (g i (List.mem_range.2 hi)),fun g i hi=>decide_eq_true (g i (List.mem_range.1 hi))⟩
def fewR (r:RP):Bool:=fewT r.e.z && decide (r.o.z.size≤100) && decide (r.k.z.size≤20) && fewM r.m.z && decide (r.fr.z.size≤20) && decide (r.d.z.size≤20) && fewKs r.k.z && fewD r.d.z && decide (r.it.z.size≤60) && decide (r.ss.z.size≤60)
structure FewP (r:RP):Prop where
 e:fewT r.e.z=true
 o:r.o.z.size≤100
 k:r.k.z.size≤20
 m:fewM r.m.z=true
 fr:r.fr.z.size≤20
 d:r.d.z.size≤20
 kk:∀ i,i < r.k.z.size→fewK r.k.z[i]!.kn=true
 dd:∀ i,i < r.d.z.size→r.d.z[i]!.z.size≤100
 it:r.it.z.size≤60
 ss:r.ss.z.size≤60
theorem qpn {r:RP}:fewR r=true↔FewP r:=by
 unfold fewR
 simp only [Bool.and_eq_true,decide_eq_true_eq,fewKs_iff,fewD_iff]
 exact ⟨fun ⟨⟨⟨⟨⟨⟨⟨⟨⟨a,b⟩,c⟩,d⟩,e⟩,f⟩,g⟩,h⟩,i⟩,j⟩=>⟨a,b,c,d,e,f,g,h,i,j⟩,fun ⟨a,b,c,d,e,f,g,h,i,j⟩=>⟨⟨⟨⟨⟨⟨⟨⟨⟨a,b⟩,c⟩,d⟩,e⟩,f⟩,g⟩,h⟩,i⟩,j⟩⟩
structure FewC (r:RP):Prop where
 es:r.e.z.size≤1000
 ee:∀ i,i < r.e.z.size→r.e.z[i]!.z.size≤1000∧r.e.z[i]!.pay.size≤1000
 o:r.o.z.size≤1000
 k:r.k.z.size≤20
 m:r.m.z.size≤20
 mm:∀ i,i < r.m.z.size→r.m.z[i]!.z.size≤1000
 fr:r.fr.z.size≤1000
 d:r.d.z.size≤20
 dd:∀ i,i < r.d.z.size→r.d.z[i]!.z.size≤1000
 kk:∀ i,i < r.k.z.size→r.k.z[i]!.r.z.size≤1000∧r.k.z[i]!.a.z.size≤1000
theorem FewP.c {r:RP} (h:FewP r):FewC r :=
 ⟨by have:=(qfs.1 h.e).1;omega,fun i hi=>by have h1:r.e.z[i]!.z.size≤100∧r.e.z[i]!.pay.size≤1000:=(qfs.1 h.e).2 i hi;omega,by have:=h.o;omega,h.k,(qgp.1 h.m).1,fun i hi=>by have:=(qgp.1 h.m).2 i hi;omega,by have:=h.fr;omega,h.d,fun i hi=>by have:=h.dd i hi;omega,fun i hi=>by have h1:r.k.z[i]!.r.z.size≤100∧r.k.z[i]!.a.z.size≤100:=qpm.1 (h.kk i hi);omega⟩
theorem RdP.tab {w:World} {r:RP} (h:RdP w r) (hf:FewC r):RdT w r.e.A r.e.z:=⟨h.e.rd,fun i hi=>(h.e.el i hi).fewW (hf.ee i hi).1 (hf.ee i hi).2,hf.es⟩
end Go.Proofs.YtlkmagmdhopcjaaGreat
namespace Go.Proofs.YtlkmagmdhopcjaaGreat
open Go.RowKit Go.Sort Go.Lib
set_option maxRecDepth 100000
def anyN (n:Nat) (p:Nat→Bool):Bool:=(List.range n).any p
theorem qlc {n:Nat} {p:Nat→Bool} (j:Nat) (hj:j < n) (h:p j=true):anyN n p=true:=by
 unfold anyN;rw [List.any_eq_true];exact ⟨j,List.mem_range.2 hj,h⟩
theorem qpo {n:Nat} {p:Nat→Bool} (h:∀ j,j < n→p j=false):anyN n p=false:=by
 unfold anyN;rw [List.any_eq_false];intro j hj;rw [h j (List.mem_range.1 hj)];exact Bool.false_ne_true
def IdxQ (p:Nat→Bool) (n:Nat) (e:Ending):Prop:=∃ r:Int,e=.returned (.int .i64 r)∧((0≤r∧anyN n p=true)∨(r = -1∧anyN n p=false))
set_option maxHeartbeats 4000000 in
theorem keIdx (p:Nat→Bool) (g:Nat) (lb:Array Value) (eg:∀ args w,(callFunc g args).run Tryz.prog w=.ok (.enter g args) w) (A:Option Addr) (c:Nat) (d:Array (KE)) (w:World) (h:RdK qaz 3 w.heap.size w A d) (hs:d.size≤1000000)
 (hp:∀ i,i < d.size→∀ W,Below w.heap.size w W→Calls Tryz.prog g (#[.agg (qaz d[i]!).toArray] ++ lb) W fun e w'=>e=.returned (.bool (p i))∧Below W.heap.size W w') :
 Calls Tryz.prog 191 #[.slice A d.size c,.func (.func g) #[] lb] w fun e w'=>IdxQ p d.size e∧Below w.heap.size w w':=by
 have HR:=hI h
 have HP:=hI hp
 clear h hp
 go_enter Tryz.func191,Tryz.ntmps191
 go_wp2
 go_loopw [8] (fun i wr=>∃ k:Nat,i=.int .i64 k∧k≤d.size∧Hid (∀ j,j < k→p j=false)∧Hid (Below w.heap.size w wr)) (fun i _=>d.size - (intOf i).toNat)
 case atStart=>exact ⟨0,rfl,Nat.zero_le _,hI (fun j hj=>absurd hj (by omega)),hI (Below.refl _ _)⟩
 case round =>
  obtain ⟨k,rfl,hk,hall,HB⟩:=hrel
  by_cases hlt:k < d.size
  ·have kz:(k:Int) < (d.size:Int):=by omega
   obtain ⟨b,off,rfl,hbl,f⟩:=(HR.out.below HB.out).at_ (i:=k) (by omega)
   have e0:=f 0 (by omega)
   have e1:=f 1 (by omega)
   have e2:=f 2 (by omega)
   have HC:=hI (fun W hb=>HP.out k hlt W hb)
   obtain ⟨x,hx⟩:∃ x,d[k]! = x:=⟨_,rfl⟩
   obtain ⟨q,hq⟩:∃ q,p k=q:=⟨_,rfl⟩
   rw [hx,hq] at HC
   rw [hx] at e0 e1 e2
   have HQ:=hI hq
   clear f hx hq
   simp only [Nat.add_zero,qaz,List.getElem!_cons_zero,List.getElem!_cons_succ] at e0 e1 e2 HC
   cases q
   ·go_wp2_with fail
    refine (HC.out _ HB.out).mono ?_
    rintro e w' ⟨rfl,hb'⟩
    have HB2:=hI (qaa HB.out hb')
    clear hb'
    go_wp2
    go_roundw
    case rel =>
     refine ⟨k + 1,by go_num,by omega,hI (fun j hj=>?_),HB2⟩
     rcases Nat.lt_or_ge j k with h | h
     ·exact hall.out j h
     ·obtain rfl:j=k:=by omega
      exact HQ.out
    case measure=>simp [intOf];omega
   ·go_wp2_with fail
    refine (HC.out _ HB.out).mono ?_
    rintro e w' ⟨rfl,hb'⟩
    have HB2:=hI (qaa HB.out hb')
    clear hb'
    go_wp2
    go_ret
    exact ⟨⟨k,rfl,Or.inl ⟨by omega,qlc k (by omega) HQ.out⟩⟩,HB2.out⟩
  ·have hlt':decide ((k:Int) < (d.size:Int))=false:=by simp;omega
   go_wp2
   go_ret
   exact ⟨⟨-1,rfl,Or.inr ⟨rfl,qpo fun j hj=>hall.out j (by omega)⟩⟩,HB.out⟩
set_option maxHeartbeats 2000000 in
theorem keCont (p:Nat→Bool) (g:Nat) (lb:Array Value) (eg:∀ args w,(callFunc g args).run Tryz.prog w=.ok (.enter g args) w) (A:Option Addr) (c:Nat) (d:Array (KE)) (w:World) (h:RdK qaz 3 w.heap.size w A d) (hs:d.size≤1000000)
 (hp:∀ i,i < d.size→∀ W,Below w.heap.size w W→Calls Tryz.prog g (#[.agg (qaz d[i]!).toArray] ++ lb) W fun e w'=>e=.returned (.bool (p i))∧Below W.heap.size W w') :
 Calls Tryz.prog 126 #[.slice A d.size c,.func (.func g) #[] lb] w fun e w'=>e=.returned (.bool (anyN d.size p))∧Below w.heap.size w w':=by
 have HI:=hI (keIdx p g lb eg A c d w h hs hp)
 clear h hp
 go_enter Tryz.func126,Tryz.ntmps126
 go_wp2_with fail
 refine HI.out.mono ?_
 rintro e w' ⟨⟨r,rfl,hr⟩,hb⟩
 have HB:=hI hb
 clear hb
 rcases hr with ⟨h1,h2⟩ | ⟨h1,h2⟩
 ·have h1':decide (0≤r)=true:=decide_eq_true h1
  go_wp2
  go_ret
  exact ⟨qac h2.symm,HB.out⟩
 ·subst h1
  go_wp2
  go_ret
  exact ⟨qac h2.symm,HB.out⟩
set_option maxHeartbeats 4000000 in
theorem rrIdx (p:Nat→Bool) (g:Nat) (lb:Array Value) (eg:∀ args w,(callFunc g args).run Tryz.prog w=.ok (.enter g args) w) (A:Option Addr) (c:Nat) (d:Array (RW (Int×Int))) (w:World) (h:RdK encW 1 w.heap.size w A d) (hs:d.size≤1000000)
 (hp:∀ i,i < d.size→∀ W,Below w.heap.size w W→Calls Tryz.prog g (#[.slice d[i]!.A d[i]!.z.size d[i]!.c] ++ lb) W fun e w'=>e=.returned (.bool (p i))∧Below W.heap.size W w') :
 Calls Tryz.prog 192 #[.slice A d.size c,.func (.func g) #[] lb] w fun e w'=>IdxQ p d.size e∧Below w.heap.size w w':=by
 have HR:=hI h
 have HP:=hI hp
 clear h hp
 go_enter Tryz.func192,Tryz.ntmps192
 go_wp2
 go_loopw [8] (fun i wr=>∃ k:Nat,i=.int .i64 k∧k≤d.size∧Hid (∀ j,j < k→p j=false)∧Hid (Below w.heap.size w wr)) (fun i _=>d.size - (intOf i).toNat)
 case atStart=>exact ⟨0,rfl,Nat.zero_le _,hI (fun j hj=>absurd hj (by omega)),hI (Below.refl _ _)⟩
 case round =>
  obtain ⟨k,rfl,hk,hall,HB⟩:=hrel
  by_cases hlt:k < d.size
  ·have kz:(k:Int) < (d.size:Int):=by omega
   obtain ⟨b,off,rfl,hbl,f⟩:=(HR.out.below HB.out).at_ (i:=k) (by omega)
   have e0:=f 0 (by omega)
   have HC:=hI (fun W hb=>HP.out k hlt W hb)
   obtain ⟨x,hx⟩:∃ x,d[k]! = x:=⟨_,rfl⟩
   obtain ⟨q,hq⟩:∃ q,p k=q:=⟨_,rfl⟩
   rw [hx,hq] at HC
   rw [hx] at e0
   have HQ:=hI hq
   clear f hx hq
   simp only [Nat.add_zero,Nat.mul_one,encW,RW.v,List.getElem!_cons_zero] at e0
   cases q
   ·go_wp2_with fail
    refine (HC.out _ HB.out).mono ?_
    rintro e w' ⟨rfl,hb'⟩
    have HB2:=hI (qaa HB.out hb')
    clear hb'
    go_wp2
    go_roundw
    case rel =>
     refine ⟨k + 1,by go_num,by omega,hI (fun j hj=>?_),HB2⟩
     rcases Nat.lt_or_ge j k with h | h
     ·exact hall.out j h
     ·obtain rfl:j=k:=by omega
      exact HQ.out
    case measure=>simp [intOf];omega
   ·go_wp2_with fail
    refine (HC.out _ HB.out).mono ?_
    rintro e w' ⟨rfl,hb'⟩
    have HB2:=hI (qaa HB.out hb')
    clear hb'
    go_wp2
    go_ret
    exact ⟨⟨k,rfl,Or.inl ⟨by omega,qlc k (by omega) HQ.out⟩⟩,HB2.out⟩
  ·have hlt':decide ((k:Int) < (d.size:Int))=false:=by simp;omega
   go_wp2
   go_ret
   exact ⟨⟨-1,rfl,Or.inr ⟨rfl,qpo fun j hj=>hall.out j (by omega)⟩⟩,HB.out⟩
set_option maxHeartbeats 2000000 in
theorem rrCont (p:Nat→Bool) (g:Nat) (lb:Array Value) (eg:∀ args w,(callFunc g args).run Tryz.prog w=.ok (.enter g args) w) (A:Option Addr) (c:Nat) (d:Array (RW (Int×Int))) (w:World) (h:RdK encW 1 w.heap.size w A d) (hs:d.size≤1000000)
 (hp:∀ i,i < d.size→∀ W,Below w.heap.size w W→Calls Tryz.prog g (#[.slice d[i]!.A d[i]!.z.size d[i]!.c] ++ lb) W fun e w'=>e=.returned (.bool (p i))∧Below W.heap.size W w') :
 Calls Tryz.prog 129 #[.slice A d.size c,.func (.func g) #[] lb] w fun e w'=>e=.returned (.bool (anyN d.size p))∧Below w.heap.size w w':=by
 have HI:=hI (rrIdx p g lb eg A c d w h hs hp)
 clear h hp
 go_enter Tryz.func129,Tryz.ntmps129
 go_wp2_with fail
 refine HI.out.mono ?_
 rintro e w' ⟨⟨r,rfl,hr⟩,hb⟩
 have HB:=hI hb
 clear hb
 rcases hr with ⟨h1,h2⟩ | ⟨h1,h2⟩
 ·have h1':decide (0≤r)=true:=decide_eq_true h1
  go_wp2
  go_ret
  exact ⟨qac h2.symm,HB.out⟩
 ·subst h1
  go_wp2
  go_ret
  exact ⟨qac h2.symm,HB.out⟩
def allN (n m:Nat) (p:Nat→Bool):Bool:=decide (n=m) && (List.range n).all p
theorem qhs {n m:Nat} {p:Nat→Bool} (h:n=m) (g:∀ j,j < n→p j=true):allN n m p=true:=by
 unfold allN;rw [Bool.and_eq_true,decide_eq_true_eq,List.all_eq_true];exact ⟨h,fun j hj=>g j (List.mem_range.1 hj)⟩
end Go.Proofs.YtlkmagmdhopcjaaGreat
namespace Go.Proofs.YtlkmagmdhopcjaaGreat
open Go.RowKit Go.Sort Go.Lib
set_option maxRecDepth 100000
def qfk (m:Array (RW Int)) (n:Int):Bool:=decide (3≤n∧n≤9) && decide ((m.size:Int)=n) && (List.range m.size).all fun i=>decide (qas m[i]!.z n=0)
def qfb (m:Array (RW Int)) (n:Int):Int:=if qfk m n=true then 0 else 2
theorem qjk {m:Array (RW Int)} {n:Int}:qfk m n=true↔(3≤n∧n≤9)∧(m.size:Int)=n∧∀ i,i < m.size→qas m[i]!.z n=0:=by
 unfold qfk
 rw [Bool.and_eq_true,Bool.and_eq_true,decide_eq_true_eq,decide_eq_true_eq,List.all_eq_true]
 constructor
 ·rintro ⟨⟨h,h2⟩,g⟩;exact ⟨h,h2,fun i hi=>of_decide_eq_true (g i (List.mem_range.2 hi))⟩
 ·rintro ⟨h,h2,g⟩;exact ⟨⟨h,h2⟩,fun i hi=>decide_eq_true (g i (List.mem_range.1 hi))⟩
theorem rowsE_yes {m:Array (RW Int)} {n:Int} (h:3≤n∧n≤9) (h2:(m.size:Int)=n) (g:∀ i,i < m.size→qas m[i]!.z n=0):qfb m n=0:=by
 unfold qfb;rw [if_pos (qjk.2 ⟨h,h2,g⟩)]
theorem rowsE_no {m:Array (RW Int)} {n:Int} (i:Nat) (hi:i < m.size) (h:qas m[i]!.z n≠0):qfb m n=2:=by
 unfold qfb;rw [if_neg fun hc=>h ((qjk.1 hc).2.2 i hi)]
theorem rowsE_out {m:Array (RW Int)} {n:Int} (h:¬ ((3≤n∧n≤9)∧(m.size:Int)=n)):qfb m n=2:=by
 unfold qfb;rw [if_neg fun hc=>h ⟨(qjk.1 hc).1,(qjk.1 hc).2.1⟩]
theorem qxn (m:Array (RW Int)) (n:Int):(qfb m n != 0) = !qfk m n:=by unfold qfb;cases qfk m n <;> rfl
theorem qxo (d:Array Int) (n:Int):qas d n=0∨qas d n=2:=by unfold qas;split <;> simp
theorem qxp (n:Int):(qic n == 0) = !decide (3≤n∧n≤9):=by
 unfold qic
 by_cases h:n < 3∨9 < n
 ·rw [if_pos h,decide_eq_false (by omega)];rfl
 ·rw [if_neg h,decide_eq_true (by omega)];simp;omega
set_option maxHeartbeats 8000000 in
theorem qgq (A:Option Addr) (c:Nat) (m:Array (RW Int)) (n:Int) (w:World) (h:RdK encW 1 w.heap.size w A m) (hh:∀ i,i < m.size→RdJ w m[i]!) (hs:m.size≤1000000) (hz:∀ i,i < m.size→m[i]!.z.size≤1000000) :
 Calls Tryz.prog 77 #[.slice A m.size c,.int .i64 n] w fun e w'=>e=.returned (.int .i64 (qfb m n))∧Below w.heap.size w w':=by
 have HR:=hI h
 have HP:Hid (∀ i,i < m.size→∀ W,Below w.heap.size w W→Calls Tryz.prog 79 #[.slice m[i]!.A m[i]!.z.size m[i]!.c,.int .i64 n] W fun e w'=>e=.returned (.int .i64 (qas m[i]!.z n))∧Below W.heap.size W w'):=fun i hi W hb=>(qfi m[i]!.A m[i]!.c m[i]!.z n _ W ((hh i hi).below hb).rd (by have:=hz i hi;omega)).mono fun e w' ⟨he,hw⟩=>⟨he,hw.mono (Nat.le_refl _)⟩
 clear h hh hz
 have hm:=qxp n
 by_cases hmn:(3≤n∧n≤9)∧(m.size:Int)=n
 rotate_left
 ·have HE:=hI (rowsE_out hmn)
  have HM:=hI hmn
  go_enter Tryz.func77,Tryz.ntmps77
  by_cases g1:3≤n∧n≤9
  ·rw [decide_eq_true g1] at hm
   have g2:((m.size:Int) != n)=true:=by simp;exact fun e=>hmn ⟨g1,e⟩
   clear hmn g1
   go_wp2_with (go_at_call 160;refine (qgr _ _).mono ?_;rintro _ _ ⟨rfl,rfl⟩)
   go_ret
   exact ⟨qan HE.out.symm,Below.refl _ _⟩
  ·rw [decide_eq_false g1] at hm
   clear hmn g1
   go_wp2_with (go_at_call 160;refine (qgr _ _).mono ?_;rintro _ _ ⟨rfl,rfl⟩)
   go_ret
   exact ⟨qan HE.out.symm,Below.refl _ _⟩
 ·have hn:=hmn.2
  have HM:=hI hmn.1
  have h2:((m.size:Int) != n)=false:=by simp [hn]
  rw [decide_eq_true hmn.1] at hm
  clear hmn
  have HN:=hI hn
  go_enter Tryz.func77,Tryz.ntmps77
  go_wp2_with (go_at_call 160;refine (qgr _ _).mono ?_;rintro _ _ ⟨rfl,rfl⟩)
  go_loopw [19] (fun i wr=>∃ k:Nat,i=.int .i64 k∧k≤m.size∧Hid (∀ j,j < k→qas m[j]!.z n=0)∧Hid (Below w.heap.size w wr)) (fun i _=>m.size - (intOf i).toNat)
  case atStart=>exact ⟨0,rfl,Nat.zero_le _,hI (fun j hj=>absurd hj (by omega)),hI (Below.refl _ _)⟩
  case round =>
   obtain ⟨k,rfl,hk,hall,HB⟩:=hrel
   by_cases hlt:k < m.size
   ·have kz:(k:Int) < (m.size:Int):=by omega
    have kn:(k:Int) < n:=by omega
    obtain ⟨b,off,rfl,hbl,f⟩:=(HR.out.below HB.out).at_ (i:=k) (by omega)
    have e0:=f 0 (by omega)
    have HC:=hI (fun W hb=>HP.out k hlt W hb)
    have HNO:=hI (fun e:qas m[k]!.z n≠0=>rowsE_no (n:=n) k hlt e)
    have hq2:=qxo m[k]!.z n
    obtain ⟨x,hx⟩:∃ x,m[k]! = x:=⟨_,rfl⟩
    obtain ⟨q,hq⟩:∃ q,qas m[k]!.z n=q:=⟨_,rfl⟩
    rw [hq] at HC HNO hq2
    rw [hx] at HC e0
    have HQ:=hI hq
    clear f hx hq
    simp only [Nat.add_zero,Nat.mul_one,encW,RW.v,List.getElem!_cons_zero] at e0
    rcases hq2 with rfl | rfl
    all_goals
     go_wp2_with fail
     refine (HC.out _ HB.out).mono ?_
     rintro e w' ⟨rfl,hbW⟩
     have HW:=hI (qaa HB.out hbW)
     clear hbW
     go_wp2
     first
      | (go_roundw
         case rel =>
          refine ⟨k + 1,by go_num,by omega,hI (fun j hj=>?_),HW⟩
          rcases Nat.lt_or_ge j k with h | h
          ·exact hall.out j h
          ·obtain rfl:j=k:=by omega
           exact HQ.out
         case measure=>simp [intOf];omega)
      | (go_ret
         exact ⟨qan (HNO.out (by decide)).symm,HW.out⟩)
   ·have hlt':decide ((k:Int) < (m.size:Int))=false:=by simp;omega
    have HF:Hid (qfb m n=0):=rowsE_yes HM.out HN.out fun i hi=>hall.out i (by omega)
    go_wp2
    go_ret
    exact ⟨qan HF.out.symm,HB.out⟩
set_option maxHeartbeats 4000000 in
theorem few18_any (A:Option Addr) (c:Nat) (m:Array (RW Int)) (w:World) (h:RdK encW 1 w.heap.size w A m) :
 Calls Tryz.prog 21 #[.slice A m.size c] w fun e w'=>e=.returned (.bool (fewM m))∧Below w.heap.size w w':=by
 have HR:=hI h
 clear h
 by_cases hs:m.size≤20
 ·have hs':decide ((20:Int) < (m.size:Int))=false:=decide_eq_false (by omega)
  go_enter Tryz.func21,Tryz.ntmps21
  go_wp2
  go_loopw [3] (fun i wr=>∃ k:Nat,i=.int .i64 k∧k≤m.size∧Hid (∀ j,j < k→m[j]!.z.size≤20)∧Hid (wr=w)) (fun i _=>m.size - (intOf i).toNat)
  case atStart=>exact ⟨0,rfl,Nat.zero_le _,hI (fun j hj=>absurd hj (by omega)),hI rfl⟩
  case round =>
   obtain ⟨k,rfl,hk,hall,hwr⟩:=hrel
   obtain rfl:=hwr.out
   by_cases hlt:k < m.size
   ·have kz:(k:Int) < (m.size:Int):=by omega
    obtain ⟨b,off,rfl,hbl,f⟩:=HR.out.at_ (i:=k) (by omega)
    have e0:=f 0 (by omega)
    obtain ⟨x,hx⟩:∃ x,m[k]! = x:=⟨_,rfl⟩
    rw [hx] at e0
    have HX:=hI hx
    clear f hx
    simp only [Nat.add_zero,Nat.mul_one,encW,RW.v,List.getElem!_cons_zero] at e0
    by_cases hz:x.z.size≤20
    ·have hz':decide ((20:Int) < (x.z.size:Int))=false:=decide_eq_false (by omega)
     have HZ:=hI hz
     clear hz
     go_wp2
     go_roundw
     case rel =>
      refine ⟨k + 1,by go_num,by omega,hI (fun j hj=>?_),by first | exact hI trivial | exact hI rfl⟩
      rcases Nat.lt_or_ge j k with h | h
      ·exact hall.out j h
      ·obtain rfl:j=k:=by omega
       rw [HX.out];exact HZ.out
     case measure=>simp [intOf];omega
    ·have hz':decide ((20:Int) < (x.z.size:Int))=true:=decide_eq_true (by omega)
     have HF:Hid (fewM m=false):=by
      show _=_
      rw [Bool.eq_false_iff]
      intro hc
      have:=(qgp.1 hc).2 k hlt
      rw [HX.out] at this
      exact hz this
     clear hz
     go_wp2
     go_ret
     exact ⟨qac HF.out.symm,Below.refl _ _⟩
   ·have hlt':decide ((k:Int) < (m.size:Int))=false:=by simp;omega
    have HF:Hid (fewM m=true):=qgp.2 ⟨hs,fun i hi=>hall.out i (by omega)⟩
    go_wp2
    go_ret
    exact ⟨qac HF.out.symm,Below.refl _ _⟩
 ·have hs':decide ((20:Int) < (m.size:Int))=true:=decide_eq_true (by omega)
  have HF:Hid (fewM m=false):=by
   show _=_
   rw [Bool.eq_false_iff]
   intro hc
   exact hs (qgp.1 hc).1
  clear hs
  go_enter Tryz.func21,Tryz.ntmps21
  go_wp2
  go_ret
  exact ⟨qac HF.out.symm,Below.refl _ _⟩
end Go.Proofs.YtlkmagmdhopcjaaGreat
namespace Go.Proofs.YtlkmagmdhopcjaaGreat
open Go.RowKit Go.Sort Go.Lib
set_option maxRecDepth 100000
def qer (n f:Int):Prop:=3≤n∧n≤9∧1≤f∧2 * f≤n - 1
instance (n f:Int):Decidable (qer n f):=by unfold qer;infer_instance
def qmg (n f:Int):Int:=if qer n f then 0 else 2
theorem qod (n f:Int):(qmg n f != 0) = !decide (qer n f):=by
 unfold qmg;by_cases h:qer n f <;> simp [h]
theorem qtm (n f:Int) (w:World):Calls Tryz.prog 119 #[.int .i64 n,.int .i64 f] w fun e w'=>e=.returned (.int .i64 (qmg n f))∧w'=w:=by
 have hq:3≤n→Int.tdiv (n - 1) 2=(n - 1) / 2:=fun h=>Int.tdiv_eq_ediv_of_nonneg (by omega)
 by_cases g1:3≤n∧n≤9
 ·have hm:=qrr g1.1 g1.2
  have h1:=g1.1
  have h2:=g1.2
  have hq':=hq g1.1
  by_cases g2:qer n f
  ·have HE:Hid (qmg n f=0):=by show _=_;unfold qmg;rw [if_pos g2]
   obtain ⟨_,_,a,b⟩:=g2
   have p1:decide (f < 1)=false:=by simp;omega
   have p2:decide ((n - 1) / 2 < f)=false:=by simp;omega
   clear a b g1 hq
   go_enter Tryz.func119,Tryz.ntmps119
   go_wp2_with (go_at_call 189;refine (qhw _ _).mono ?_;rintro _ _ ⟨rfl,rfl⟩)
   all_goals first
    | (go_ret;exact ⟨qan HE.out.symm,rfl⟩)
    | (exfalso;omega)
  ·have HE:Hid (qmg n f=2):=by show _=_;unfold qmg;rw [if_neg g2]
   by_cases a:f < 1
   ·have p1:decide (f < 1)=true:=decide_eq_true a
    clear a g1 hq g2
    go_enter Tryz.func119,Tryz.ntmps119
    go_wp2_with (go_at_call 189;refine (qhw _ _).mono ?_;rintro _ _ ⟨rfl,rfl⟩)
    all_goals (go_ret;exact ⟨qan HE.out.symm,rfl⟩)
   ·have p1:decide (f < 1)=false:=decide_eq_false a
    have p2:decide ((n - 1) / 2 < f)=true:=by
     unfold qer at g2
     simp only [decide_eq_true_eq];omega
    clear a g1 hq g2
    go_enter Tryz.func119,Tryz.ntmps119
    go_wp2_with (go_at_call 189;refine (qhw _ _).mono ?_;rintro _ _ ⟨rfl,rfl⟩)
    all_goals first
     | (go_ret;exact ⟨qan HE.out.symm,rfl⟩)
     | (exfalso;omega)
 ·have hm:=qvu (n:=n) (by omega)
  have HE:Hid (qmg n f=2):=by show _=_;unfold qmg;rw [if_neg];rintro ⟨a,b,_⟩;exact g1 ⟨a,b⟩
  clear g1 hq
  go_enter Tryz.func119,Tryz.ntmps119
  go_wp2_with (go_at_call 189;refine (qhw _ _).mono ?_;rintro _ _ ⟨rfl,rfl⟩)
  all_goals (go_ret;exact ⟨qan HE.out.symm,rfl⟩)
theorem qrh (n top:Int) (w:World):Calls Tryz.prog 120 #[.int .i64 n,.int .i64 top] w fun e w'=>e=.returned (.bool (withB n top))∧w'=w:=by
 go_enter Tryz.func120,Tryz.ntmps120
 go_wp2
 all_goals
  go_ret
  exact ⟨qel (by simp <;> omega),rfl⟩
def qkb (r:RP):Bool:=decide (qer r.n r.f) && decide (1≤r.self∧r.self≤r.n) && decide (0≤r.seq∧r.seq≤99999∧0≤r.ticks∧r.ticks≤1000000∧0≤r.count∧r.count≤1000000) && clkB r.clock r.floor r.o.z
def farB (r:RP) (i:Nat):Bool:=decide (r.n < qbe r.e.z[i]!.id)
def qxq (r:RP):Bool:=chkT r.e.z && !anyN r.e.z.size (farB r)
def qoe (r:RP):Bool:=decide ((r.k.z.size:Int)=r.n) && !anyN r.k.z.size (fun i=>!chkB r.k.z[i]!.kn) && qfk r.m.z r.n && decide (qas r.fr.z r.n=0)
def qig (d:Array (Int×Int)):Bool:=(qam d != 0) || (decide (0 < d.size) && decide (99999 < d[d.size - 1]!.2))
def lastB (t id:Int):Bool:=decide ((t=0∧id=0)∨((10≤id∧id≤999999∧id % 10≠0)∧1≤t∧t≤1000000))
def finB (r:RP):Bool:=decide ((r.d.z.size:Int)=r.n) && !anyN r.d.z.size (fun i=>qig r.d.z[i]!.z) && lastB r.lt r.lid
def chkR (r:RP):Bool:=qkb r && qxq r && qoe r && finB r
def repE (r:RP):Int:=if chkR r=true then 0 else 2
theorem qxr (now floor:Int) (d:Array (Int×Int)):(clkE now floor d == 0)=clkB now floor d:=by unfold clkE;cases clkB now floor d <;> rfl
set_option maxHeartbeats 8000000 in
theorem qxs (r:RP) (w:World) (h:RdP w r) (hf:r.o.z.size≤1000000) :
 Calls Tryz.prog 49 #[.agg (encP r).toArray] w fun e w'=>e=.returned (.bool (qkb r))∧Below w.heap.size w w':=by
 have HC:=hI (fun W (hb:Below w.heap.size w W)=>clk_any r.clock r.floor r.o.A r.o.c r.o.z W (h.o.below hb).rd hf)
 have hB:=hI (fun T=>bel1 w (.cells (encP r).toArray T))
 have hsz:=qod r.n r.f
 have hck:=qxr r.clock r.floor r.o.z
 clear h hf
 simp only [encP] at hB ⊢
 go_enter Tryz.func49,Tryz.ntmps49
 go_wp2_with (first
  | (go_at_call 119;refine (qtm _ _ _).mono ?_;rintro _ _ ⟨rfl,rfl⟩)
  | (go_at_call 120;refine (qrh _ _ _).mono ?_;rintro _ _ ⟨rfl,rfl⟩)
  | (go_at_call 121;refine (HC.out _ (hB.out _)).mono ?_;rintro _ w1 ⟨rfl,hb⟩;have HW:=hI (qaa (hB.out _) hb);clear hb))
 all_goals
  go_ret
  refine ⟨qac ?_,by first | exact HW.out | exact hB.out _⟩
  simp only [qkb,withB,decide_eq_true_eq,decide_eq_false_iff_not] at *
  grind
end Go.Proofs.YtlkmagmdhopcjaaGreat
namespace Go.Proofs.YtlkmagmdhopcjaaGreat
open Go.RowKit Go.Sort Go.Lib
set_option maxRecDepth 100000
set_option maxHeartbeats 4000000 in
theorem enIdx (p:Nat→Bool) (g:Nat) (lb:Array Value) (eg:∀ args w,(callFunc g args).run Tryz.prog w=.ok (.enter g args) w) (A:Option Addr) (c:Nat) (d:Array (EN)) (w:World) (h:RdK encE 10 w.heap.size w A d) (hs:d.size≤1000000)
 (hp:∀ i,i < d.size→∀ W,Below w.heap.size w W→Calls Tryz.prog g (#[.agg (encE d[i]!).toArray] ++ lb) W fun e w'=>e=.returned (.bool (p i))∧Below W.heap.size W w') :
 Calls Tryz.prog 56 #[.slice A d.size c,.func (.func g) #[] lb] w fun e w'=>IdxQ p d.size e∧Below w.heap.size w w':=by
 have HR:=hI h
 have HP:=hI hp
 clear h hp
 go_enter Tryz.func56,Tryz.ntmps56
 go_wp2
 go_loopw [8] (fun i wr=>∃ k:Nat,i=.int .i64 k∧k≤d.size∧Hid (∀ j,j < k→p j=false)∧Hid (Below w.heap.size w wr)) (fun i _=>d.size - (intOf i).toNat)
 case atStart=>exact ⟨0,rfl,Nat.zero_le _,hI (fun j hj=>absurd hj (by omega)),hI (Below.refl _ _)⟩
 case round =>
  obtain ⟨k,rfl,hk,hall,HB⟩:=hrel
  by_cases hlt:k < d.size
  ·have kz:(k:Int) < (d.size:Int):=by omega
   obtain ⟨b,off,rfl,hbl,f⟩:=(HR.out.below HB.out).at_ (i:=k) (by omega)
   have e0:=f 0 (by omega)
   have e1:=f 1 (by omega)
   have e2:=f 2 (by omega)
   have e3:=f 3 (by omega)
   have e4:=f 4 (by omega)
   have e5:=f 5 (by omega)
   have e6:=f 6 (by omega)
   have e7:=f 7 (by omega)
   have e8:=f 8 (by omega)
   have e9:=f 9 (by omega)
   have HC:=hI (fun W hb=>HP.out k hlt W hb)
   obtain ⟨x,hx⟩:∃ x,d[k]! = x:=⟨_,rfl⟩
   obtain ⟨q,hq⟩:∃ q,p k=q:=⟨_,rfl⟩
   rw [hx,hq] at HC
   rw [hx] at e0 e1 e2 e3 e4 e5 e6 e7 e8 e9
   have HQ:=hI hq
   clear f hx hq
   simp only [Nat.add_zero,encE,List.getElem!_cons_zero,List.getElem!_cons_succ] at e0 e1 e2 e3 e4 e5 e6 e7 e8 e9 HC
   cases q
   ·go_wp2_with fail
    refine (HC.out _ HB.out).mono ?_
    rintro e w' ⟨rfl,hb'⟩
    have HB2:=hI (qaa HB.out hb')
    clear hb'
    go_wp2
    go_roundw
    case rel =>
     refine ⟨k + 1,by go_num,by omega,hI (fun j hj=>?_),HB2⟩
     rcases Nat.lt_or_ge j k with h | h
     ·exact hall.out j h
     ·obtain rfl:j=k:=by omega
      exact HQ.out
    case measure=>simp [intOf];omega
   ·go_wp2_with fail
    refine (HC.out _ HB.out).mono ?_
    rintro e w' ⟨rfl,hb'⟩
    have HB2:=hI (qaa HB.out hb')
    clear hb'
    go_wp2
    go_ret
    exact ⟨⟨k,rfl,Or.inl ⟨by omega,qlc k (by omega) HQ.out⟩⟩,HB2.out⟩
  ·have hlt':decide ((k:Int) < (d.size:Int))=false:=by simp;omega
   go_wp2
   go_ret
   exact ⟨⟨-1,rfl,Or.inr ⟨rfl,qpo fun j hj=>hall.out j (by omega)⟩⟩,HB.out⟩
set_option maxHeartbeats 2000000 in
theorem enCont (p:Nat→Bool) (g:Nat) (lb:Array Value) (eg:∀ args w,(callFunc g args).run Tryz.prog w=.ok (.enter g args) w) (A:Option Addr) (c:Nat) (d:Array (EN)) (w:World) (h:RdK encE 10 w.heap.size w A d) (hs:d.size≤1000000)
 (hp:∀ i,i < d.size→∀ W,Below w.heap.size w W→Calls Tryz.prog g (#[.agg (encE d[i]!).toArray] ++ lb) W fun e w'=>e=.returned (.bool (p i))∧Below W.heap.size W w') :
 Calls Tryz.prog 124 #[.slice A d.size c,.func (.func g) #[] lb] w fun e w'=>e=.returned (.bool (anyN d.size p))∧Below w.heap.size w w':=by
 have HI:=hI (enIdx p g lb eg A c d w h hs hp)
 clear h hp
 go_enter Tryz.func124,Tryz.ntmps124
 go_wp2_with fail
 refine HI.out.mono ?_
 rintro e w' ⟨⟨r,rfl,hr⟩,hb⟩
 have HB:=hI hb
 clear hb
 rcases hr with ⟨h1,h2⟩ | ⟨h1,h2⟩
 ·have h1':decide (0≤r)=true:=decide_eq_true h1
  go_wp2
  go_ret
  exact ⟨qac h2.symm,HB.out⟩
 ·subst h1
  go_wp2
  go_ret
  exact ⟨qac h2.symm,HB.out⟩
end Go.Proofs.YtlkmagmdhopcjaaGreat
namespace Go.Proofs.YtlkmagmdhopcjaaGreat
open Go.RowKit Go.Sort Go.Lib
set_option maxRecDepth 100000
set_option maxHeartbeats 4000000 in
theorem far_any (e:EN) (n:Int) (g:Nat) (w:World) (hg:g < w.heap.size) (hc:w.cell? ⟨g,0,none⟩=some (.int .i64 n)) :
 Calls Tryz.prog 122 #[.agg (encE e).toArray,.pointer (some ⟨g,0,none⟩)] w fun r w'=>r=.returned (.bool (decide (n < qbe e.id)))∧Below w.heap.size w w':=by
 have HS:Hid (∀ W,Calls Tryz.prog 66 #[.int .i64 e.id] W fun e' w'=>e'=.returned (.int .i64 (qbe e.id))∧Below W.heap.size W w'):=fun W=>(qky e.id W).mono fun _ _ ⟨he,hw⟩=>⟨he,hw ▸ Below.refl _ _⟩
 have HB:=hI (bel1 w (.cells (encE e).toArray 58))
 have h0:=heap_alloc_new w (.cells (encE e).toArray 58)
 have hq:(w.alloc (.cells (encE e).toArray 58)).cell? ⟨w.heap.size,0,none⟩=some (.int .i64 e.id):=qbb w _ _ 0
 have hc':(w.alloc (.cells (encE e).toArray 58)).cell? ⟨g,0,none⟩=some (.int .i64 n):=(World.cell?_alloc_lt w _ _ hg).trans hc
 have hl:g < (w.alloc (.cells (encE e).toArray 58)).heap.size:=by simp;omega
 have hl2:w.heap.size < (w.alloc (.cells (encE e).toArray 58)).heap.size:=by simp
 simp only [encE] at HB hq hc' hl hl2 ⊢
 generalize qbe e.id=sf at HS ⊢
 clear hc h0
 go_enter Tryz.func122,Tryz.ntmps122
 go_wp2_with fail
 generalize w.alloc (.cells #[.int .i64 e.id,.int .i64 e.ph,.int .i64 e.qu,.int .i64 e.t,.int .i64 e.bal,.int .i64 e.abal,.int .i64 e.seen,.int .i64 e.age,.string e.pay,.slice e.A e.z.size e.c] 58)=w1 at HB hq hc' hl hl2 ⊢
 have a0:=fun p:ExtW w1=>p.cell (a:=⟨w.heap.size,0,none⟩) hl2 hq
 have b0:=fun p:ExtW w1=>p.cell (a:=⟨g,0,none⟩) hl hc'
 clear hq hc'
 refine qad (by kernel_rfl) (by kernel_rfl) ?_
 repeat (first | go_big_quiet_step ((go_at_call 66;exact Calls.ext_of (HS.out _))) | quiet_step ((go_at_call 66;exact Calls.ext_of (HS.out _))))
 refine wpQuiet_nil ?_
 intro wq hw'
 obtain ⟨⟨W,hbW⟩,hw''⟩:=hw'
 have hw3:wq=W:=hw''
 subst hw3
 have HBW:=hI (qaa HB.out hbW)
 clear hbW hw'' a0 b0
 go_wp2
 go_ret
 exact ⟨rfl,HBW.out⟩
set_option maxHeartbeats 8000000 in
theorem cmds_any (r:RP) (w:World) (h:RdP w r) (hf:FewC r) :
 Calls Tryz.prog 50 #[.agg (encP r).toArray] w fun e w'=>e=.returned (.bool (qxq r))∧Below w.heap.size w w':=by
 have hs:r.e.z.size≤1000000:=by have:=hf.es;omega
 have HT:=hI (fun W (hb:Below w.heap.size w W)=>qnz r.e.A r.e.c r.e.z W ((h.below hb).tab hf))
 have HX:=hI (BoxW.init w (encP r).toArray 95)
 have HN:=hI (fun W (hb:BoxW w (encP r).toArray W)=>enCont (farB r) 122 #[.pointer (some ⟨w.heap.size,0,none⟩)] (enters_of Tryz.func122 (by kernel_rfl) rfl) r.e.A r.e.c r.e.z W (h.e.below hb.b).rd hs
  (fun i hi W' hb'=>far_any r.e.z[i]! r.n w.heap.size W' (Nat.lt_of_lt_of_le hb.lt hb'.size) ((hb.next hb').at_ 0)))
 have hck:=qqs r.e.z
 clear h hf
 simp only [encP] at HX HN ⊢
 go_enter Tryz.func50,Tryz.ntmps50
 go_wp2_with (first
  | (go_at_call 123;refine (HT.out _ HX.out.b).mono ?_;rintro _ w1 ⟨rfl,hb⟩;have HX:=hI (HX.out.next hb);clear hb;have c7:=HX.out.at_ 7)
  | (go_at_call 124;refine (HN.out _ HX.out).mono ?_;rintro _ w1 ⟨rfl,hb⟩;have HX:=hI (HX.out.next hb);clear hb))
 all_goals
  go_ret
  refine ⟨qac ?_,HX.out.b⟩
  simp only [qxq] at *
  grind
set_option maxHeartbeats 4000000 in
theorem hear1_any (k:KE) (w:World) (h:RdKE w k) :
 Calls Tryz.prog 125 #[.agg (qaz k).toArray] w fun r w'=>r=.returned (.bool (!chkB k.kn))∧Below w.heap.size w w':=by
 have HC:=hI (fun W (hb:Below w.heap.size w W)=>qxm (.agg (qaz k).toArray) k.kn W (h.below hb).knV)
 have HB:=hI (bel1 w (.cells (qaz k).toArray 66))
 have hck:(chkE k.kn != 0) = !chkB k.kn:=by unfold chkE;cases chkB k.kn <;> rfl
 clear h
 simp only [qaz] at HC HB ⊢
 go_enter Tryz.func125,Tryz.ntmps125
 go_wp2_with fail
 refine (HC.out _ HB.out).mono ?_
 rintro e w' ⟨rfl,hb⟩
 have HW:=hI (qaa HB.out hb)
 clear hb
 go_wp2
 go_ret
 exact ⟨rfl,HW.out⟩
set_option maxHeartbeats 4000000 in
theorem fin1_any (A:Option Addr) (c:Nat) (d:Array (Int×Int)) (w:World) (h:RdK encR 2 w.heap.size w A d) (hs:d.size≤1000000) :
 Calls Tryz.prog 127 #[.slice A d.size c] w fun r w'=>r=.returned (.bool (qig d))∧Below w.heap.size w w':=by
 have HC:=hI (qkj A c d w h)
 have HF:Hid (qig d=((qam d != 0) || (decide (0 < d.size) && decide (99999 < d[d.size - 1]!.2)))):=hI rfl
 have HR:=hI h
 clear h
 generalize qam d=g at HC HF
 rcases Nat.eq_zero_or_pos d.size with h0 | h0
 ·obtain rfl:d=#[]:=Array.eq_empty_of_size_eq_zero h0
  have HF:Hid (qig #[]=(g != 0)):=by show _=_;rw [HF.out];simp
  simp only [Array.size_empty] at HC ⊢
  clear h0 HR hs
  go_enter Tryz.func127,Tryz.ntmps127
  go_wp2_with fail
  refine HC.out.mono ?_
  rintro e w' ⟨rfl,hb⟩
  have HB:=hI hb
  clear hb
  go_wp2
  all_goals
   go_ret
   refine ⟨qac ?_,HB.out⟩
   rw [HF.out]
   grind
 ·have q0:decide ((0:Int) < (d.size:Int))=true:=by simp;omega
  rw [decide_eq_true h0] at HF
  obtain ⟨n,hn⟩:∃ n,n + 1=d.size:=⟨d.size - 1,by omega⟩
  have hsub:(d.size:Int) - 1=(n:Int):=by omega
  have hlt:(n:Int) < (d.size:Int):=by omega
  obtain ⟨b,off,rfl,hbl,f⟩:=HR.out.at_ (i:=n) (by omega)
  have e1:=f 1 (by omega)
  rw [show d.size - 1=n by omega] at HF
  generalize d[n]! = x at e1 HF
  simp only [encR,List.getElem!_cons_zero,List.getElem!_cons_succ] at e1
  clear f h0 hn
  go_enter Tryz.func127,Tryz.ntmps127
  go_wp2_with fail
  refine HC.out.mono ?_
  rintro e w' ⟨rfl,hb⟩
  have u1:=(hb.cell (p:=⟨b,off + n * 2 + 1,none⟩) hbl).trans e1
  have HB:=hI hb
  clear hb
  go_wp2
  all_goals
   go_ret
   refine ⟨qac ?_,HB.out⟩
   rw [HF.out]
   grind
theorem eqA_S (x y:Int×Int) (w:World):(binOp .eql 29 (.agg #[.int .i64 x.1,.int .i64 x.2]) (.agg #[.int .i64 y.1,.int .i64 y.2])).run Tryz.prog w=.ok (.bool (decide (x=y))) w:=by
 have hS:Tryz.prog.underlying 29 = some (.struct (Tryz.prog.fieldsOf 29)):=by kernel_rfl
 have hp:Tryz.prog.stoodInHeld 29 = false:=by kernel_rfl
 have u3:=Tryz.underlying3
 rw [run_eql_struct,show (10000:Nat)=9999 + 1 from rfl,run_equalIn_agg w 9999 29 _ _ hS hp]
 simp only [Program.fieldsOf,Tryz.underlying29]
 go_simp
 obtain ⟨x1,x2⟩:=x
 obtain ⟨y1,y2⟩:=y
 by_cases h1:x1=y1 <;> by_cases h2:x2=y2 <;> simp [h1,h2]
set_option maxHeartbeats 8000000 in
theorem hears_any (r:RP) (w:World) (h:RdP w r) (hf:FewC r) :
 Calls Tryz.prog 51 #[.agg (encP r).toArray] w fun e w'=>e=.returned (.bool (qoe r))∧Below w.heap.size w w':=by
 have HX:=hI (BoxW.init w (encP r).toArray 95)
 have HN:=hI (fun W (hb:Below w.heap.size w W)=>keCont (fun i=>!chkB r.k.z[i]!.kn) 125 #[] (enters_of Tryz.func125 (by kernel_rfl) rfl) r.k.A r.k.c r.k.z W (h.k.below hb).rd (by have:=hf.k;omega)
  (fun i hi W' hb'=>hear1_any r.k.z[i]! W' (((h.kk i hi).below hb).below hb')))
 have HM:=hI (fun W (hb:Below w.heap.size w W)=>qgq r.m.A r.m.c r.m.z r.n W (h.m.below hb).rd (fun i hi=>(h.mm i hi).below hb) (by have:=hf.m;omega) (fun i hi=>by have:=hf.mm i hi;omega))
 have HS:=hI (fun W (hb:Below w.heap.size w W)=>qfi r.fr.A r.fr.c r.fr.z r.n _ W (h.fr.below hb).rd (by have:=hf.fr;omega))
 have hck:=qxn r.m.z r.n
 have hcm:(qfb r.m.z r.n == 0)=qfk r.m.z r.n:=by unfold qfb;cases qfk r.m.z r.n <;> rfl
 have hk20:(r.k.z.size:Int)≤20:=by have:=hf.k;omega
 clear h hf
 simp only [encP] at HX ⊢
 go_enter Tryz.func51,Tryz.ntmps51
 go_wp2_with (first
  | (go_at_call 126;refine (HN.out _ HX.out.b).mono ?_;rintro _ w1 ⟨rfl,hb⟩;have HX:=hI (HX.out.next hb);clear hb;have c0:=HX.out.at_ 0;have c10:=HX.out.at_ 10;have c11:=HX.out.at_ 11)
  | (go_at_call 77;refine (HM.out _ HX.out.b).mono ?_;rintro _ w2 ⟨rfl,hb⟩;have HX:=hI (HX.out.next hb);clear hb;have c0:=HX.out.at_ 0;have c11:=HX.out.at_ 11)
  | (go_at_call 79;refine (HS.out _ HX.out.b).mono ?_;rintro _ w3 ⟨rfl,hb⟩;have HX:=hI (HX.out.next hb);clear hb))
 all_goals
  go_ret
  refine ⟨qac ?_,HX.out.b⟩
  simp only [qoe] at *
  grind
set_option maxHeartbeats 8000000 in
theorem fin_any (r:RP) (w:World) (h:RdP w r) (hf:FewC r) :
 Calls Tryz.prog 52 #[.agg (encP r).toArray] w fun e w'=>e=.returned (.bool (finB r))∧Below w.heap.size w w':=by
 have HX:=hI (BoxW.init w (encP r).toArray 95)
 have HN:=hI (fun W (hb:Below w.heap.size w W)=>rrCont (fun i=>qig r.d.z[i]!.z) 127 #[] (enters_of Tryz.func127 (by kernel_rfl) rfl) r.d.A r.d.c r.d.z W (h.d.below hb).rd (by have:=hf.d;omega)
  (fun i hi W' hb'=>fin1_any r.d.z[i]!.A r.d.z[i]!.c r.d.z[i]!.z W' (((h.dd i hi).below hb).below hb').rd (by have:=hf.dd i hi;omega)))
 have hq:=fun W=>eqA_S (r.lt,r.lid) (0,0) W
 have hid:=qjc r.lid
 have hid0:(qef r.lid == 0)=decide (10≤r.lid∧r.lid≤999999∧r.lid % 10≠0):=by
  have:(qef r.lid == 0) = !(qef r.lid != 0):=by simp [bne]
  rw [this,hid,Bool.not_not]
 have hd20:(r.d.z.size:Int)≤20:=by have:=hf.d;omega
 clear h hf hid
 simp only [encP] at HX ⊢
 go_enter Tryz.func52,Tryz.ntmps52
 go_wp2_with (first
  | (go_at_call 129;refine (HN.out _ HX.out.b).mono ?_;rintro _ w1 ⟨rfl,hb⟩;have HX:=hI (HX.out.next hb);clear hb;have c13:=HX.out.at_ 13;have c14:=HX.out.at_ 14)
  | (go_at_call 130;refine (qcb _ _).mono ?_;rintro _ _ ⟨rfl,rfl⟩))
 all_goals
  go_ret
  refine ⟨qac ?_,HX.out.b⟩
  simp only [finB,lastB] at *
  grind
end Go.Proofs.YtlkmagmdhopcjaaGreat
namespace Go.Proofs.YtlkmagmdhopcjaaGreat
open Go.RowKit Go.Sort Go.Lib
def AddQ (k:KN) (lo hi:Int) (atts:Array (Int×Int)) (r:KN) (c:Int):Prop:=(addB k lo hi atts=false∧r=⟨0,#[],#[]⟩∧c=2)∨(AddA k lo hi atts∧AddR k lo hi atts r∧c=0)
theorem AddQ.uniq {k:KN} {lo hi:Int} {atts:Array (Int×Int)} {r s:KN} {c d:Int} (h:AddQ k lo hi atts r c) (g:AddQ k lo hi atts s d):r=s∧c=d:=by
 rcases h with ⟨h0,rfl,rfl⟩ | ⟨h0,h1,rfl⟩
 ·rcases g with ⟨_,rfl,rfl⟩ | ⟨g0,_,_⟩
  ·exact ⟨rfl,rfl⟩
  ·rw [qmb.2 g0] at h0
   cases h0
 ·rcases g with ⟨g0,_,_⟩ | ⟨_,g1,rfl⟩
  ·rw [qmb.2 h0] at g0
   cases g0
  ·exact ⟨h1.uniq g1,rfl⟩
theorem qxt (k:KN):sameK k k=true:=qqq.2 rfl
end Go.Proofs.YtlkmagmdhopcjaaGreat
namespace Go.Proofs.YtlkmagmdhopcjaaGreat
open Go.RowKit Go.Sort Go.Lib
set_option maxRecDepth 100000
theorem qve:(Tryz.prog.info? 26).map (fun i=>(i.zero,i.size,i.bytes))=some (some (.slice none 0 0),1,24):=by kernel_rfl
theorem qdq {α:Type} [Inhabited α] {en:α→List Value} {k:Nat} {w:World} {base:Nat} {e:TypeId} {v:Value} {d:Array α} (h:w.ownsRow base e k v d.size (flatK en k d).toList):∃ x:RW α,v=x.v∧x.z=d∧RdW en k w x:=by
 have h':=h
 obtain ⟨A,c,hv,hr,hn⟩:=qaw h
 obtain ⟨_,⟨h1,h0⟩ | ⟨g,cap,cur,h1,_,_,hnc,_⟩⟩:=h'
 ·rw [hv] at h1
  injection h1 with a b c'
  exact ⟨⟨A,c,d⟩,hv,rfl,hr,by show d.size≤c;omega,hn⟩
 ·rw [hv] at h1
  injection h1 with a b c'
  exact ⟨⟨A,c,d⟩,hv,rfl,hr,by show d.size≤c;omega,hn⟩
theorem flat_W {α:Type} [Inhabited α] (z:Array (RW α)):(flatK encW 1 z).toList=z.toList.map RW.v:=by
 apply List.ext_getElem?
 intro t
 rw [Array.getElem?_toList]
 by_cases h:t < z.size
 ·have h1:t < (flatK encW 1 z).size:=by rw [size_flatK];omega
  have h2:=get_flatK encW 1 z t (by omega)
  rw [getElem!_pos _ t h1,Nat.mod_one,Nat.div_one,getElem!_pos z t h] at h2
  rw [Array.getElem?_eq_getElem h1,h2,List.getElem?_map,Array.getElem?_toList,Array.getElem?_eq_getElem h]
  rfl
 ·rw [Array.getElem?_eq_none (by rw [size_flatK];omega),List.getElem?_eq_none (by simp;omega)]
theorem qdr {w:World} {base:Nat} {e:TypeId} {v:Value} {l:List Int} (h:w.ownsRow base e 1 v l.length (l.map (Value.int .i64))):∃ x:RW Int,v=x.v∧x.z=l.toArray∧RdJ w x:=by
 have h':=h
 obtain ⟨A,cc,hv,hr⟩:=qmq h
 have hv0:v=(⟨A,cc,l.toArray⟩:RW Int).v:=by rw [hv];simp [RW.v]
 obtain ⟨_,⟨hv2,h0⟩ | ⟨g,cap,cur,hv2,_,_,hnc,_⟩⟩:=h'
 ·rw [hv] at hv2
  injection hv2 with a b e3
  exact ⟨⟨A,cc,l.toArray⟩,hv0,rfl,⟨hr,by show l.toArray.size≤cc;simp;omega,fun _=>e3⟩⟩
 ·rw [hv] at hv2
  injection hv2 with a b e3
  exact ⟨⟨A,cc,l.toArray⟩,hv0,rfl,⟨hr,by show l.toArray.size≤cc;simp;omega,fun h=>by rw [a] at h;cases h⟩⟩
theorem qkq {α:Type} [Inhabited α] {w:World} {base:Nat} {e:TypeId} {v:Value} {z:Array (RW α)} (h:w.ownsRow base e 1 v z.size (z.toList.map RW.v)):∃ x:RW (RW α),v=x.v∧x.z=z∧RdW encW 1 w x :=
 qdq (by rw [flat_W];exact h)
theorem qri {w:World} {base:Nat} {e:TypeId} {v:Value} {l:List Value} {x:Value} (h:w.ownsRow base e 1 v (l.length + 1) (l ++ [x])):w.ownsRow base e 1 v (l ++ [x]).length (l ++ [x]):=by
 simpa using h
theorem qdh {w:World} {b b':Nat} {e:TypeId} {s n:Nat} {v:Value} {xs:List Value} (h:w.ownsRow b e s v n xs) (hb:b'≤b):w.ownsRow b' e s v n xs:=by
 obtain ⟨h0,h1 | ⟨g,cap,cur,hv,hB,hh,hr⟩⟩:=h
 ·exact ⟨h0,Or.inl h1⟩
 ·exact ⟨h0,Or.inr ⟨g,cap,cur,hv,Nat.le_trans hb hB,hh,hr⟩⟩
theorem qht {w W:World} {B s n:Nat} {e:TypeId} {v:Value} {xs:List Value} (h:w.ownsRow B e s v n xs) (hb:Below w.heap.size w W):W.ownsRow B e s v n xs:=by
 obtain ⟨h0,h1 | ⟨g,cap,cur,hv,hB,hh,hr⟩⟩:=h
 ·exact ⟨h0,Or.inl h1⟩
 ·exact ⟨h0,Or.inr ⟨g,cap,cur,hv,hB,(hb.block g (Array.getElem?_eq_some_iff.1 hh).1).trans hh,hr⟩⟩
theorem qdy {w w':World} {B B2 s s2 n n2:Nat} {e e2:TypeId} {v v2:Value} {xs xs2:List Value} (h:w.ownsRow B e s v n xs) (h2:w.ownsRow B2 e2 s2 v2 n2 xs2) (hne:e≠e2) (hg:w.grownBy w' v.ownBlock):w'.ownsRow B2 e2 s2 v2 n2 xs2:=by
 refine h2.kept hg ?_
 obtain ⟨_,⟨rfl,_⟩ | ⟨g2,_,_,rfl,_,hh2,_⟩⟩:=h2
 ·exact Or.inl rfl
 ·right
  intro hc
  obtain ⟨_,⟨rfl,_⟩ | ⟨g,_,_,rfl,_,hh,_⟩⟩:=h
  ·cases hc
  ·have hc':g2=g:=by simpa [Value.ownBlock] using hc
   subst hc'
   rw [hh] at hh2
   injection hh2 with a
   injection a with b c
   exact hne c
def cutR (D:Array Int) (n i:Nat):Array Int:=((List.range n).map fun j=>D[i * n + j]!).toArray
def cutZ (b o n:Nat) (D:Array Int):Array (RW Int):=((List.range n).map fun i=>(⟨some ⟨b,o + i * n,none⟩,n,cutR D n i⟩:RW Int)).toArray
theorem qfl (D:Array Int) (n i:Nat):(cutR D n i).size=n:=by simp [cutR]
theorem cutR_at (D:Array Int) (n i:Nat) {j:Nat} (hj:j < n):(cutR D n i)[j]! = D[i * n + j]!:=by
 rw [getElem!_pos _ j (by rw [qfl];exact hj)]
 simp [cutR]
theorem qjl (b o n:Nat) (D:Array Int):(cutZ b o n D).size=n:=by simp [cutZ]
theorem cutZ_at (b o n:Nat) (D:Array Int) {i:Nat} (hi:i < n):(cutZ b o n D)[i]! = ⟨some ⟨b,o + i * n,none⟩,n,cutR D n i⟩:=by
 rw [getElem!_pos _ i (by rw [qjl];exact hi)]
 simp [cutZ]
theorem cutZ_v (b o n:Nat) (D:Array Int):(cutZ b o n D).toList.map RW.v=(List.range n).map fun i=>Value.slice (some ⟨b,o + i * n,none⟩) n n:=by
 unfold cutZ
 simp only [List.map_map]
 refine List.map_congr_left fun i _=>?_
 show Value.slice _ (cutR D n i).size n=_
 rw [qfl]
def RdMM (w:World) (x:RW (RW Int)):Prop:=RdW encW 1 w x∧∀ i,i < x.z.size→RdJ w x.z[i]!
theorem RdMM.below {w w':World} {x:RW (RW Int)} (h:RdMM w x) (hb:Below w.heap.size w w'):RdMM w' x:=⟨h.1.below hb,fun i hi=>(h.2 i hi).below hb⟩
theorem cutZ_rd {b o n:Nat} {D:Array Int} {W:World} (hb:b < W.heap.size) (h:∀ t,t < n * n→W.cell? ⟨b,o + t,none⟩=some (.int .i64 D[t]!)):∀ i,i < n→RdJ W (cutZ b o n D)[i]!:=by
 intro i hi
 rw [cutZ_at _ _ _ _ hi]
 refine ⟨fun _=>⟨b,o + i * n,rfl,hb,fun j hj=>?_⟩,by show (cutR D n i).size≤n;rw [qfl];exact Nat.le_refl _,fun h=>by cases h⟩
 have hj':j < n:=by rwa [show (RW.mk (some (⟨b,o + i * n,none⟩:Addr)) n (cutR D n i)).z=cutR D n i from rfl,qfl] at hj
 have hle:(i + 1) * n≤n * n:=Nat.mul_le_mul_right n hi
 rw [Nat.succ_mul] at hle
 rw [Nat.add_assoc,h _ (by omega)]
 show _=some (Value.int .i64 (cutR D n i)[j]!)
 rw [cutR_at _ _ _ hj']
def NewM (k:Nat) (z:Array (RW Int)):Prop:=z.size=k∧∀ i,i < k→z[i]!.z=(List.replicate k 0).toArray
set_option maxHeartbeats 4000000 in
theorem cut_any (b o c n:Nat) (w:World) (hn:n≤100) (hc:n * n≤c) (hcm:c≤maxLen) :
 Calls Tryz.prog 163 #[.slice (some ⟨b,o,none⟩) (n * n) c,.int .i64 n] w fun e w'=>∃ v,e=.returned v∧w'.ownsRow w.heap.size 26 1 v n ((List.range n).map fun i=>.slice (some ⟨b,o + i * n,none⟩) n n)∧Below w.heap.size w w':=by
 obtain ⟨i0,hi0,hz0,hz1,hz2⟩:=info_parts qve
 obtain ⟨N,hN⟩:∃ N,n * n=N:=⟨_,rfl⟩
 have HN:=hI hN
 rw [hN] at hc ⊢
 clear hN
 go_enter Tryz.func163,Tryz.ntmps163
 go_wp2
 go_loopw [5,8] (fun v i wr=>∃ (k:Nat) (L:List Value),i=.int .i64 k∧k≤n∧L.length=k∧Hid (L=(List.range k).map fun i=>Value.slice (some ⟨b,o + i * n,none⟩) n n)∧wr.ownsRow w.heap.size 26 1 v L.length L∧Hid (Below w.heap.size w wr)) (fun _ i _=>n - (intOf i).toNat)
 case atStart=>exact ⟨0,[],rfl,Nat.zero_le _,rfl,rfl,World.ownsRow_nil _ _ _ _,Below.refl _ _⟩
 case round =>
  obtain ⟨k,L,rfl,hk,hl,HL,hown,HB⟩:=hrel
  by_cases hlt:k < n
  ·have kz:(k:Int) < (n:Int):=by omega
   obtain ⟨p,hp⟩:∃ p,k * n=p:=⟨_,rfl⟩
   have hq:(k + 1) * n=p + n:=by rw [Nat.succ_mul,hp]
   have hle:p + n≤N:=by rw [←hq,←HN.out];exact Nat.mul_le_mul_right n hlt
   have m1:(k:Int) * (n:Int)=(p:Int):=by rw [←hp];simp
   have m2:((k:Int) + 1) * (n:Int)=((p + n:Nat):Int):=by rw [Int.add_mul,m1];omega
   have HS:Hid (((List.range (k + 1)).map fun i=>Value.slice (some ⟨b,o + i * n,none⟩) n n)=L ++ [.slice (some ⟨b,o + p,none⟩) n n]):=by
    show _=_
    rw [List.range_succ,List.map_append,←HL.out,←hp];rfl
   have hHB:=HB.out.size
   have hcm':c≤9223372036854775807:=hcm
   have t1:((p:Int) + (n:Int)).toNat=p + n:=by omega
   have t2:p + n - p=n:=by omega
   have t3:¬ (p + n=p):=by omega
   have t4:(p:Int) + (n:Int)≤(c:Int):=by omega
   clear hp hq
   go_wp2_with (at_builtin;refine wpList_append_own _ rfl _ _ 25 rfl w.heap.size 26 i0 (.slice none 0 0) 1 24 Tryz.underlying25 hi0 hz0 hz1 hz2 rfl (by decide) _ _ _ rfl (World.ownsRow.alloc hown _) ⟨wr.heap.size,0,none⟩ 1 1 [.slice (some ⟨b,o + p,none⟩) n n] rfl rfl (qjq _ _ _) (by simp [Value.oneCell']) (by unfold maxLen;omega) (by omega) (by simp;omega) ?_;intro v' w3 hown3 hgrow _)
   go_roundw
   case rel=>exact ⟨k + 1,L ++ [.slice (some ⟨b,o + p,none⟩) n n],by go_num,by omega,by simp [hl],hI HS.out.symm,qri hown3,hI (qfm HB.out hown hgrow)⟩
   case measure=>simp [intOf];omega
  ·have hlt':decide ((k:Int) < (n:Int))=false:=decide_eq_false (by omega)
   obtain rfl:k=n:=by omega
   go_wp2
   go_ret
   exact ⟨_,rfl,by rw [←HL.out,←hl];exact hown,HB.out⟩
theorem cut_made {b o n B:Nat} {W:World} {v:Value} (D:Array Int) (hown:W.ownsRow B 26 1 v n ((List.range n).map fun i=>Value.slice (some ⟨b,o + i * n,none⟩) n n)) (hb:b < W.heap.size) (hc:∀ t,t < n * n→W.cell? ⟨b,o + t,none⟩=some (.int .i64 D[t]!)):∃ x:RW (RW Int),v=x.v∧x.z=cutZ b o n D∧RdMM W x:=by
 rw [←cutZ_v b o n D] at hown
 obtain ⟨x,e,hz,hr⟩:=qkq (z:=cutZ b o n D) (by rw [qjl];exact hown)
 refine ⟨x,e,hz,hr,fun i hi=>?_⟩
 rw [hz] at hi ⊢
 rw [qjl] at hi
 exact cutZ_rd hb hc i hi
def OwnMM (B:Nat) (w:World) (x:RW (RW Int)):Prop:=∀ W,(∀ j,B≤j→j < w.heap.size→W.heap[j]?=w.heap[j]?)→w.heap.size≤W.heap.size→RdMM W x
theorem qdz {w W:World} {B B0 s n:Nat} {e:TypeId} {v:Value} {xs:List Value} (h:w.ownsRow B e s v n xs) (hB:B0≤B) (ho:∀ j,B0≤j→j < w.heap.size→W.heap[j]?=w.heap[j]?):W.ownsRow B e s v n xs:=by
 obtain ⟨h0,h1 | ⟨g,cap,cur,hv,hg,hh,hr⟩⟩:=h
 ·exact ⟨h0,Or.inl h1⟩
 ·exact ⟨h0,Or.inr ⟨g,cap,cur,hv,hg,(ho g (by omega) (Array.getElem?_eq_some_iff.1 hh).1).trans hh,hr⟩⟩
theorem cut_own {b o n B B0:Nat} {w:World} {v:Value} (D:Array Int) (hown:w.ownsRow B 26 1 v n ((List.range n).map fun i=>Value.slice (some ⟨b,o + i * n,none⟩) n n)) (hB:B0≤B) (hb:b < w.heap.size) (hB2:B0≤b) (hc:∀ t,t < n * n→w.cell? ⟨b,o + t,none⟩=some (.int .i64 D[t]!)):∃ x:RW (RW Int),v=x.v∧x.z=cutZ b o n D∧OwnMM B0 w x:=by
 have key:∀ W:World,(∀ j,B0≤j→j < w.heap.size→W.heap[j]?=w.heap[j]?)→w.heap.size≤W.heap.size→∃ x:RW (RW Int),v=x.v∧x.z=cutZ b o n D∧RdMM W x:=fun W ho hs =>
  cut_made D (qdz hown hB ho) (by omega) (fun t ht=>by rw [World.cell?_of_block (w:=w) (a:=⟨b,o + t,none⟩) (ho b hB2 hb)];exact hc t ht)
 obtain ⟨x,e,hz,_⟩:=key w (fun _ _ _=>rfl) (Nat.le_refl _)
 refine ⟨x,e,hz,fun W ho hs=>?_⟩
 obtain ⟨y,e2,hz2,hr⟩:=key W ho hs
 have:x=y:=by
  obtain ⟨xA,xc,xz⟩:=x
  obtain ⟨yA,yc,yz⟩:=y
  have hz':xz=yz:=hz.trans hz2.symm
  have e':=e.symm.trans e2
  unfold RW.v at e'
  injection e' with q1 q2 q3
  subst hz' q1 q3
  rfl
 rw [this]
 exact hr
def zs (k:Nat):List Int:=List.replicate k 0
theorem zs_len (k:Nat):(zs k).length=k:=by simp [zs]
theorem zs_succ (k:Nat):zs (k + 1)=zs k ++ [0]:=List.replicate_succ'
def OwnZ (B:Nat) (W:World) (v:Value) (k:Nat):Prop:=∃ L:List Value,L.length=k∧W.ownsRow B 26 1 v L.length L∧∀ u ∈ L,W.ownsRow B 3 1 u (zs k).length ((zs k).map (Value.int .i64))
theorem OwnZ.same {B:Nat} {w W:World} {v:Value} {k:Nat} (h:OwnZ B w v k) (ho:∀ j,B≤j→j < w.heap.size→W.heap[j]?=w.heap[j]?):OwnZ B W v k:=by
 obtain ⟨L,hl,h1,h2⟩:=h
 exact ⟨L,hl,qdz h1 (Nat.le_refl _) ho,fun u hu=>qdz (h2 u hu) (Nat.le_refl _) ho⟩
theorem OwnZ.rd {B:Nat} {W:World} {v:Value} {k:Nat} (h:OwnZ B W v k):∃ x:RW (RW Int),v=x.v∧NewM k x.z∧RdMM W x:=by
 obtain ⟨L,hl,ho,hu⟩:=h
 have hx:∀ i,i < k→∃ x:RW Int,L[i]?=some x.v∧x.z=(List.replicate k 0).toArray∧RdJ W x:=fun i hi=>by
  have hi':i < L.length:=by omega
  obtain ⟨x,e,hz,hr⟩:=qdr (hu L[i] (List.getElem_mem hi'))
  exact ⟨x,by rw [List.getElem?_eq_getElem hi',e],hz,hr⟩
 obtain ⟨f,hf⟩:=Go.Deep.choose_lt hx
 have hsz:((List.range k).map f).toArray.size=k:=by simp
 have hget:∀ i,i < k→((List.range k).map f).toArray[i]! = f i:=fun i hi=>by simp [hi]
 have hL:((List.range k).map f).toArray.toList.map RW.v=L:=by
  apply List.ext_getElem?
  intro i
  rcases Nat.lt_or_ge i k with hi | hi
  ·rw [(hf i hi).1]
   simp [hi]
  ·rw [List.getElem?_eq_none (by simpa using hi),List.getElem?_eq_none (by omega)]
 obtain ⟨x,e,hz,hr⟩:=qkq (z:=((List.range k).map f).toArray) (by rw [hL,hsz,←hl];exact ho)
 refine ⟨x,e,?_,hr,fun i hi=>?_⟩
 ·rw [hz]
  exact ⟨hsz,fun i hi=>by rw [hget i hi];exact (hf i hi).2.1⟩
 ·rw [hz] at hi ⊢
  rw [hsz] at hi
  rw [hget i hi]
  exact (hf i hi).2.2
set_option maxHeartbeats 4000000 in
theorem rSwNew_ok (k:Nat) (w:World) (h3:3≤k) (h9:k≤9):Calls Tryz.prog 60 #[.int .i64 k] w fun e w'=>(∃ v,e=.returned (.tuple #[v,.int .i64 0])∧OwnZ w.heap.size w' v k)∧Below w.heap.size w w':=by
 obtain ⟨i0,hi0,hz0,hz1,hz2⟩:=info_parts qve
 obtain ⟨j0,hj0,hy0,hy1,hy2⟩:=info_parts qdu
 have e1:decide ((k:Int) < 3)=false:=decide_eq_false (by omega)
 have e2:decide (9 < (k:Int))=false:=decide_eq_false (by omega)
 go_enter Tryz.func60,Tryz.ntmps60
 go_wp2
 go_loopw [4,5] (fun v i wr=>∃ (j:Nat) (L:List Value),i=.int .i64 j∧j≤k∧L.length=j∧wr.ownsRow w.heap.size 26 1 v L.length L∧Hid (∀ u ∈ L,wr.ownsRow w.heap.size 3 1 u (zs k).length ((zs k).map (Value.int .i64)))∧Hid (Below w.heap.size w wr)) (fun _ i _=>k - (intOf i).toNat)
 case atStart=>exact ⟨0,[],rfl,Nat.zero_le _,rfl,World.ownsRow_nil _ _ _ _,hI (fun u hu=>by cases hu),hI (Below.refl _ _)⟩
 case round =>
  obtain ⟨j,L,rfl,hj,hl,hown,HU,HB⟩:=hrel
  by_cases hlt:j < k
  ·have kz:(j:Int) < (k:Int):=by omega
   have hBs:=HB.out.size
   go_wp2
   obtain ⟨wo,rfl⟩:∃ W,W=wr:=⟨_,rfl⟩
   go_loopw [6,7] (fun r m wi=>∃ p:Nat,m=.int .i64 p∧p≤k∧wi.ownsRow wo.heap.size 3 1 r (zs p).length ((zs p).map (Value.int .i64))∧Hid (Below wo.heap.size wo wi)) (fun _ m _=>k - (intOf m).toNat)
   case atStart=>exact ⟨0,rfl,Nat.zero_le _,World.ownsRow_nil _ _ _ _,hI (Below.refl _ _)⟩
   case round =>
    obtain ⟨p,rfl,hp,hrow,HI⟩:=hrel
    have hIs:=HI.out.size
    by_cases hlp:p < k
    ·have pz:(p:Int) < (k:Int):=by omega
     have hpl:=zs_len p
     go_wp2_with (at_builtin;refine wpList_append_own _ rfl _ _ 26 rfl wo.heap.size 3 j0 (.int .i64 0) 1 8 Tryz.underlying26 hj0 hy0 hy1 hy2 rfl (by decide) _ _ _ rfl (World.ownsRow.alloc hrow _) ⟨wr.heap.size,0,none⟩ 1 1 [.int .i64 0] rfl rfl (qjq _ _ _) (by simp [Value.oneCell']) (by unfold maxLen;omega) (by omega) (by simp;omega) ?_;intro v' w3 hown3 hgrow _)
     go_roundw
     case rel=>exact ⟨p + 1,by go_num,by omega,by rw [zs_succ];exact own_snoc hown3,hI (qfm HI.out hrow hgrow)⟩
     case measure=>simp [intOf];omega
    ·have hlt':decide ((p:Int) < (k:Int))=false:=decide_eq_false (by omega)
     obtain rfl:p=k:=by omega
     have hout:=qht hown HI.out
     have hrow2:=qdh hrow hBs
     obtain ⟨UA,un,uc,rfl⟩:∃ A n c,u6=Value.slice A n c:=by
      obtain ⟨_,⟨e,_⟩ | ⟨_,_,_,e,_⟩⟩:=hrow2
      ·exact ⟨_,_,_,e⟩
      ·exact ⟨_,_,_,e⟩
     have HU2:=hI (fun u hu=>qht (HU.out u hu) HI.out)
     have HB2:=hI (qaa HB.out HI.out)
     clear HU HB HI hown hrow
     go_wp2_with (at_builtin;refine wpList_append_own _ rfl _ _ 25 rfl w.heap.size 26 i0 (.slice none 0 0) 1 24 Tryz.underlying25 hi0 hz0 hz1 hz2 rfl (by decide) _ _ _ rfl (World.ownsRow.alloc hout _) ⟨wr.heap.size,0,none⟩ 1 1 [.slice UA un uc] rfl rfl (qjq _ _ _) (by simp [Value.oneCell']) (by unfold maxLen;omega) (by omega) (by simp;omega) ?_;intro v' w3 hown3 hgrow _)
     have hne:(26 : TypeId)≠3:=by decide
     have HK:=hI (qdy (hout.alloc _) (hrow2.alloc _) hne hgrow)
     have HV:=hI (fun u hu=>qdy (hout.alloc _) ((HU2.out u hu).alloc _) hne hgrow)
     go_roundw
     case rel =>
      refine ⟨j + 1,L ++ [_],by go_num,by omega,by simp [hl],qri hown3,hI (fun u hu=>?_),hI (qfm HB2.out hout hgrow)⟩
      rcases List.mem_append.1 hu with h | h
      ·exact HV.out u h
      ·rw [List.mem_singleton.1 h];exact HK.out
     case measure=>simp [intOf];omega
  ·have hlt':decide ((j:Int) < (k:Int))=false:=decide_eq_false (by omega)
   obtain rfl:j=k:=by omega
   go_wp2
   go_ret2
   exact ⟨⟨_,rfl,L,hl,hown,HU.out⟩,HB.out⟩
end Go.Proofs.YtlkmagmdhopcjaaGreat
namespace Go.Proofs.YtlkmagmdhopcjaaGreat
open Go.RowKit Go.Sort Go.Lib
theorem qpp {k r:KN} {lo hi:Int} {atts:Array (Int×Int)} (h:AddA k lo hi atts) (hr:AddR k lo hi atts r) (hz:k.ats.size + atts.size≤400):ChkP r∧k.base≤r.base∧r.ats.size≤k.ats.size + atts.size∧∀ t,inR k.rs t=true→hasK r t=true:=by
 obtain ⟨l,h1,_,h3⟩:=hr.ok h hz
 refine ⟨h3.chk,h3.up,?_,fun t ht=>?_⟩
 ·rw [h3.eat]
  exact qre k atts
 ·rw [h3.has]
  exact Or.inr ((h1.2 t).trans (qif.2 (Or.inl ht)))
theorem qvf {k s:KN} {ids:Array Int} (h:ChkP k) (hs:SetR k ids s):ChkP s∧k.base≤s.base∧∀ t,inR k.rs t=true→hasK s t=true:=by
 obtain ⟨l,h1,_,h3⟩:=hs.ok h
 refine ⟨h3.chk,h3.up,fun t ht=>?_⟩
 rw [h3.has]
 exact Or.inr ((h1.2 t).trans (qmc.2 (Or.inl ht)))
end Go.Proofs.YtlkmagmdhopcjaaGreat
namespace Go.Proofs.YtlkmagmdhopcjaaGreat
open Go.RowKit Go.Sort Go.Lib
theorem own_mark {k0 k1 k2:KN} {lo hi:Int} {atts:Array (Int×Int)} {ids:Array Int} (hA:AddA k0 lo hi atts) (h1:AddR k0 lo hi atts k1) (hz:k0.ats.size + atts.size≤400) (h2:SetR k1 ids k2) (he:k2.ats.size=0) (hl:lo≤k0.base):hi≤k2.base:=by
 obtain ⟨l1,i1,_,f1⟩:=h1.ok hA hz
 obtain ⟨l2,i2,_,f2⟩:=h2.ok f1.chk
 refine Classical.byContradiction fun hc=>?_
 have hb1:=f1.up
 have hb2:=f2.up
 have n2:=f2.nx
 have p2:pS k1 ids (k2.base + 1)=false:=(i2.2 _).symm.trans n2
 have q1:inR k1.rs (k2.base + 1)=false:=by
  rw [Bool.eq_false_iff]
  exact fun h=>(Bool.eq_false_iff.1 p2) (qmc.2 (Or.inl h))
 have q2:inR l1 (k2.base + 1)=false:=by
  rw [f1.out] at q1
  have:decide (k1.base < k2.base + 1)=true:=decide_eq_true (by omega)
  rwa [this,Bool.and_true] at q1
 have q3:pK k0 lo hi atts (k2.base + 1)=false:=(i1.2 _).symm.trans q2
 have q4:inR k0.rs (k2.base + 1)=false:=by
  rw [Bool.eq_false_iff]
  exact fun h=>(Bool.eq_false_iff.1 q3) (qif.2 (Or.inl h))
 have q5:∃ x ∈ k1.ats.toList,x.1=k2.base + 1:=by
  rw [f1.eat]
  by_cases ht:k2.base + 1 ∈ qbg k0.ats.toList
  ·obtain ⟨x,hx,e⟩:=List.mem_map.1 ht
   exact ⟨x,qfa.2 (Or.inl hx),e⟩
  ·by_cases hu:k2.base + 1 ∈ qbg atts.toList
   ·obtain ⟨x,hx,e⟩:=List.mem_map.1 hu
    have e':x.1=k2.base + 1:=e
    exact ⟨x,qfa.2 (Or.inr ⟨hx,by omega,by rw [e'];exact q4,by rw [e'];exact ht⟩),e'⟩
   ·exact absurd (qif.2 (Or.inr ⟨⟨by omega,by omega⟩,hu,ht⟩)) (Bool.eq_false_iff.1 q3)
 obtain ⟨x,hx,e⟩:=q5
 have hs:k2.ats=qgm k1 ids:=f2.eat
 have hd:qfq ids x=true:=by
  cases hd:qfq ids x
  ·have hm:x ∈ (qgm k1 ids).toList:=by
    show x ∈ List.filter _ _
    exact List.mem_filter.2 ⟨hx,by rw [hd];rfl⟩
   rw [←hs] at hm
   have:k2.ats.toList=[]:=by
    rw [Array.size_eq_zero_iff.1 he]
   rw [this] at hm
   cases hm
  ·rfl
 refine (Bool.eq_false_iff.1 p2) (qmc.2 (Or.inr ⟨x,hx,?_,e⟩))
 unfold qfq at hd
 simpa using hd
end Go.Proofs.YtlkmagmdhopcjaaGreat
namespace Go.Proofs.YtlkmagmdhopcjaaGreat
open Go.RowKit Go.Sort Go.Lib
def KnF (B:Nat) (w:World) (v:Value) (k:KN):Prop:=∃ A1 c1 A2 c2,v=.agg #[.int .i64 k.base,.slice A1 k.rs.size c1,.slice A2 k.ats.size c2]∧RdK encR 2 w.heap.size w A1 k.rs∧RdK qaf 2 w.heap.size w A2 k.ats∧(A1=none→c1=0)∧(A2=none→c2=0)∧(∀ g off,A1=some ⟨g,off,none⟩→B≤g)∧(∀ g off,A2=some ⟨g,off,none⟩→B≤g)
theorem keOfF {B:Nat} {w:World} {v:Value} {k:KN} (h:KnF B w v k):∃ x:KE,v=.agg (qaz x).toArray∧x.kn=k∧RdKE w x∧(∀ g off,x.r.A=some ⟨g,off,none⟩→B≤g)∧(∀ g off,x.a.A=some ⟨g,off,none⟩→B≤g):=by
 obtain ⟨A1,c1,A2,c2,rfl,h1,h2,h3,h4,h5,h6⟩:=h
 exact ⟨⟨k.base,⟨A1,c1,k.rs⟩,⟨A2,c2,k.ats⟩⟩,rfl,rfl,⟨⟨h1,h3⟩,⟨h2,h4⟩⟩,h5,h6⟩
end Go.Proofs.YtlkmagmdhopcjaaGreat
namespace Go.Proofs.YtlkmagmdhopcjaaGreat
open Go.RowKit Go.Sort Go.Lib
set_option maxRecDepth 100000
def encJ (x:Int):List Value:=[.int .i64 x]
section
variable {w W W':World} {x:Int} {e:TypeId} {o:Obj} {H:Nat}
theorem n1 (h0:W.cell? ⟨H,0,none⟩=some (.int .i64 x)):RdK encJ 1 (H + 1) W (some ⟨H,0,none⟩) #[x]:=fun _ =>
 ⟨H,0,rfl,Nat.lt_succ_self _,fun t ht=>by
  have ht':t=0:=by simp at ht;omega
  subst ht'
  rw [get_flatK _ _ _ _ (by simp)]
  exact h0⟩
end
attribute [local go_sem ↓] Go.wp_at_zero Go.wp_at_succ
end Go.Proofs.YtlkmagmdhopcjaaGreat
