/- Texts that the law leans on. -/
import Derived.Deep.CutRange
import Derived.Test.YtlkmagmdhopcjaaGreatMRead
import Derived.Test.YtlkmagmdhopcjaaGreatMBase
import Derived.Lib.Strings
namespace Go.Proofs.YtlkmagmdhopcjaaGreat
open Go.RowKit Go.Sort Go.Lib
set_option maxRecDepth 100000
def qqr (z:Array AK):Bool:=(List.range z.size).all fun i=>ackB z[i]! && !hadN z i z[i]!
theorem qus {z:Array AK} (i:Nat) (hi:i < z.size) (h:(ackB z[i]! && !hadN z i z[i]!)=false):qqr z=false:=by
 unfold qqr
 rw [List.all_eq_false]
 exact ⟨i,List.mem_range.2 hi,by rw [h];exact Bool.false_ne_true⟩
theorem goodK_yes {z:Array AK} (h:∀ i,i < z.size→(ackB z[i]! && !hadN z i z[i]!)=true):qqr z=true:=by
 unfold qqr
 rw [List.all_eq_true]
 exact fun i hi=>h i (List.mem_range.1 hi)
set_option maxHeartbeats 4000000 in
theorem acks_any (A:Option Addr) (c:Nat) (z:Array AK) (w:World) (h:RdK encK 6 w.heap.size w A z) (hc:z.size≤c) (hs:z.size≤1000) :
 Calls Tryz.prog 237 #[.slice A z.size c] w fun e w'=>e=.returned (.bool (qqr z && decide (z.size≤27)))∧Below w.heap.size w w':=by
 have HR:=hI h
 clear h
 go_enter Tryz.func237,Tryz.ntmps237
 go_wp2
 go_loopw [8] (fun i wr=>∃ k:Nat,i=.int .i64 k∧k≤z.size∧Hid (∀ j,j < k→(ackB z[j]! && !hadN z j z[j]!)=true)∧Hid (Below w.heap.size w wr)) (fun i _=>z.size - (intOf i).toNat)
 case atStart=>exact ⟨0,rfl,Nat.zero_le _,hI (fun j hj=>absurd hj (by omega)),hI (Below.refl _ _)⟩
 case round =>
  obtain ⟨k,rfl,hk,hall,HB⟩:=hrel
  by_cases hlt:k < z.size
  ·have kz:(k:Int) < (z.size:Int):=by omega
   obtain ⟨b,off,rfl,hbl,f⟩:=(HR.out.below HB.out).at_ (i:=k) (by omega)
   have e0:=f 0 (by omega)
   have e1:=f 1 (by omega)
   have e2:=f 2 (by omega)
   have e3:=f 3 (by omega)
   have e4:=f 4 (by omega)
   have e5:=f 5 (by omega)
   have HO:=hI (fun W=>of_any z[k]! W)
   have HA:=hI (fun W=>qoj z[k]! W)
   have HC:=hI (fun W (hb:Below w.heap.size w W)=>qok (some ⟨b,off,none⟩) c k z z[k]! W ((HR.out.below hb).mono hb.size) (by omega) (by omega))
   obtain ⟨g1,hg1⟩:∃ g,ackB z[k]! = g:=⟨_,rfl⟩
   obtain ⟨g2,hg2⟩:∃ g,hadN z k z[k]! = g:=⟨_,rfl⟩
   rw [hg1] at HA
   rw [hg2] at HC
   have HG:Hid ((ackB z[k]! && !hadN z k z[k]!)=(g1 && !g2)):=by show _=_;rw [hg1,hg2]
   clear hg1 hg2
   obtain ⟨x,hx⟩:∃ x,z[k]! = x:=⟨_,rfl⟩
   rw [hx] at e0 e1 e2 e3 e4 e5 HO HA HC
   clear f hx
   obtain ⟨kind,frm,bal,t,abal,ph⟩:=x
   simp only [encK,Nat.add_zero,List.getElem!_cons_zero,List.getElem!_cons_succ] at e0 e1 e2 e3 e4 e5 HO HA HC
   have kc:(k:Int)≤(c:Int):=by omega
   have HBX:=hI (fun W (hb:Below (wr.alloc (.cells #[.int .i64 kind,.int .i64 frm,.int .i64 bal,.int .i64 t,.int .i64 abal,.int .i64 ph] 176)).heap.size (wr.alloc (.cells #[.int .i64 kind,.int .i64 frm,.int .i64 bal,.int .i64 t,.int .i64 abal,.int .i64 ph] 176)) W) (j:Nat)=>(hb.cell (p:=⟨wr.heap.size,j,none⟩) (by simp)).trans (qbb wr #[.int .i64 kind,.int .i64 frm,.int .i64 bal,.int .i64 t,.int .i64 abal,.int .i64 ph] _ j))
   have HBB:=hI (qab HB.out (.cells #[.int .i64 kind,.int .i64 frm,.int .i64 bal,.int .i64 t,.int .i64 abal,.int .i64 ph] 176))
   go_wp2_with fail
   refine (HO.out _).mono ?_
   rintro e w1 ⟨rfl,hb1⟩
   have a0:=HBX.out w1 hb1 0
   have a1:=HBX.out w1 hb1 1
   have a2:=HBX.out w1 hb1 2
   have a3:=HBX.out w1 hb1 3
   have a4:=HBX.out w1 hb1 4
   have a5:=HBX.out w1 hb1 5
   have HB1:=hI hb1
   clear hb1
   go_wp2_with fail
   refine (HA.out _).mono ?_
   rintro e w2 ⟨rfl,hb2⟩
   have HB2:=hI (qaa HBB.out (qaa HB1.out hb2))
   clear hb2 HO HA HBX
   cases g1
   ·go_wp2
    go_ret
    refine ⟨qac ?_,HB2.out⟩
    rw [qus k hlt (by rw [HG.out];rfl)];rfl
   ·go_wp2_with fail
    refine (HC.out _ HB2.out).mono ?_
    rintro e w3 ⟨rfl,hb3⟩
    have HB3:=hI (qaa HB2.out hb3)
    clear hb3 HC
    cases g2
    ·go_wp2
     go_roundw
     case rel =>
      refine ⟨k + 1,by go_num,by omega,hI (fun j hj=>?_),HB3⟩
      rcases Nat.lt_or_ge j k with h | h
      ·exact hall.out j h
      ·obtain rfl:j=k:=by omega
       exact HG.out
     case measure=>simp [intOf];omega
    ·go_wp2
     go_ret
     refine ⟨qac ?_,HB3.out⟩
     rw [qus k hlt (by rw [HG.out];rfl)];rfl
  ·have hlt':decide ((k:Int) < (z.size:Int))=false:=by simp;omega
   have HG:Hid (qqr z=true):=goodK_yes fun i hi=>hall.out i (by omega)
   go_wp2
   go_ret
   refine ⟨qac ?_,HB.out⟩
   rw [HG.out]
   simp <;> omega
end Go.Proofs.YtlkmagmdhopcjaaGreat
namespace Go.Proofs.YtlkmagmdhopcjaaGreat
open Go.RowKit Go.Sort Go.Lib
set_option maxRecDepth 100000
def qpc (e:EN):Prop:=0≤e.t∧e.t≤1000000∧0≤e.bal∧e.bal≤1000000∧0≤e.abal∧e.abal≤e.bal∧0≤e.seen∧e.seen≤1000000∧0≤e.age∧e.age≤1000000
instance (e:EN):Decidable (qpc e):=by unfold qpc;infer_instance
def qwv (e:EN):Prop:=(((2≤e.ph∧e.ph≤4)∨e.ph=5∨e.ph=6∨0 < e.abal)↔0 < e.t)∧(0 < e.abal∨e.ph=5∨e.ph=6∨(0 < e.bal↔(e.ph=3∨e.ph=4)))
instance (e:EN):Decidable (qwv e):=by unfold qwv;infer_instance
def qsv (e:EN):Prop:=10≤e.id∧e.id≤999999∧e.id % 10≠0∧1≤e.ph∧e.ph≤6∧1≤e.qu∧e.qu≤511∧e.pay.size≤300
instance (e:EN):Decidable (qsv e):=by unfold qsv;infer_instance
def qcp (e:EN):Bool:=decide (qsv e) && decide (qpc e) && decide (qwv e) && (qqr e.z && decide (e.z.size≤27)) && decide (5≤e.ph→e.z.size=0)
def enE (e:EN):Int:=if qcp e=true then 0 else 2
structure BoxW (w:World) (cs:Array Value) (W:World):Prop where
 b:Below w.heap.size w W
 lt:w.heap.size < W.heap.size
 at_:∀ j,W.cell? ⟨w.heap.size,j,none⟩=cs[j]?
theorem BoxW.init (w:World) (cs:Array Value) (t:TypeId):BoxW w cs (w.alloc (.cells cs t)):=⟨bel1 w _,by simp,fun j=>qbb w cs t j⟩
theorem BoxW.next {w W W':World} {cs:Array Value} (h:BoxW w cs W) (hb:Below W.heap.size W W'):BoxW w cs W' :=
 ⟨qaa h.b hb,Nat.lt_of_lt_of_le h.lt hb.size,fun j=>(hb.cell (p:=⟨w.heap.size,j,none⟩) h.lt).trans (h.at_ j)⟩
theorem qsw (id:Int):(qef id != 0) = !decide (10≤id∧id≤999999∧id % 10≠0):=by
 unfold qef
 by_cases h:id < 10∨999999 < id∨id % 10=0
 ·rw [if_pos h,decide_eq_false (by omega)];rfl
 ·rw [if_neg h,decide_eq_true (by omega)];rfl
section
variable (e:EN)
set_option maxHeartbeats 4000000 in
theorem nums_any (w:World):Calls Tryz.prog 235 #[.agg (encE e).toArray] w fun r w'=>r=.returned (.bool (decide (qpc e)))∧Below w.heap.size w w':=by
 have hb:Below w.heap.size w (w.alloc (.cells (encE e).toArray 58)):=bel1 w _
 obtain ⟨id,ph,qu,t,bal,abal,seen,age,pay,A,c,z⟩:=e
 simp only [encE] at hb ⊢
 go_enter Tryz.func235,Tryz.ntmps235
 go_wp2_with (go_at_call 248;refine (qoi _ _ _).mono ?_;rintro e w' ⟨rfl,rfl⟩)
 all_goals
  go_ret
  refine ⟨qel ?_,hb⟩
  simp only [qpc,withB,decide_eq_true_eq,decide_eq_false_iff_not,Bool.false_eq_true,false_iff] at *
  omega
set_option maxHeartbeats 4000000 in
theorem told_any (w:World):Calls Tryz.prog 236 #[.agg (encE e).toArray] w fun r w'=>r=.returned (.bool (decide (qwv e)))∧Below w.heap.size w w':=by
 obtain ⟨id,ph,qu,t,bal,abal,seen,age,pay,A,c,z⟩:=e
 simp only [encE]
 go_enter Tryz.func236,Tryz.ntmps236
 go_wp2_with (first | (go_at_call 269;refine (qxz _ _).mono ?_;rintro e w' ⟨rfl,rfl⟩) | (go_at_call 144;refine (qem _ _).mono ?_;rintro e w' ⟨rfl,rfl⟩))
 all_goals
  go_ret
  refine ⟨qel ?_,bel1 w _⟩
  simp only [qwv,propB,qee,decide_eq_true_eq,decide_eq_false_iff_not] at *
  grind
set_option maxHeartbeats 8000000 in
theorem qfe (w:World) (hr:RdE w e) (hc:e.z.size≤e.c):Calls Tryz.prog 190 #[.agg (encE e).toArray] w fun r w'=>r=.returned (.int .i64 (enE e))∧Below w.heap.size w w':=by
 have HK:=hI (fun W (hb:Below w.heap.size w W)=>acks_any e.A e.c e.z W (hr.below hb).rd hc hr.sz)
 have HN:=hI (fun W=>nums_any e W)
 have HT:=hI (fun W=>told_any e W)
 have HX:=hI (BoxW.init w (encE e).toArray 58)
 have hid:=qsw e.id
 have hcn:=cntN_zero e.qu
 have HP:=hI hr.pz
 have hps:(e.pay.size:Int)≤1000:=by have:=hr.pz;omega
 clear hr hc
 simp only [encE] at HN HT HX ⊢
 go_enter Tryz.func190,Tryz.ntmps190
 go_wp2_with (first
  | (go_at_call 61;refine (qhv _ _).mono ?_;rintro _ _ ⟨rfl,rfl⟩)
  | (go_at_call 144;refine (qem _ _).mono ?_;rintro _ _ ⟨rfl,rfl⟩)
  | (go_at_call 130;refine (qcb _ _).mono ?_;rintro _ _ ⟨rfl,rfl⟩)
  | (go_at_call 234;refine (qye _ _).mono ?_;rintro _ _ ⟨rfl,rfl⟩)
  | (go_at_call 235;refine (HN.out _).mono ?_;rintro _ w1 ⟨rfl,hb⟩;have HX:=hI (HX.out.next hb);clear hb;have c0:=HX.out.at_ 0;have c1:=HX.out.at_ 1;have c2:=HX.out.at_ 2;have c3:=HX.out.at_ 3;have c4:=HX.out.at_ 4;have c5:=HX.out.at_ 5;have c6:=HX.out.at_ 6;have c7:=HX.out.at_ 7;have c8:=HX.out.at_ 8;have c9:=HX.out.at_ 9)
  | (go_at_call 236;refine (HT.out _).mono ?_;rintro _ w2 ⟨rfl,hb⟩;have HX:=hI (HX.out.next hb);clear hb;have c1:=HX.out.at_ 1;have c9:=HX.out.at_ 9)
  | (go_at_call 237;refine (HK.out _ HX.out.b).mono ?_;rintro _ w3 ⟨rfl,hb⟩;have HX:=hI (HX.out.next hb);clear hb;have c1:=HX.out.at_ 1;have c9:=HX.out.at_ 9))
 all_goals
  go_ret
  refine ⟨qan ?_,HX.out.b⟩
  simp only [enE,qcp,qsv,qit,qee,decide_eq_true_eq,decide_eq_false_iff_not] at *
  grind
end
end Go.Proofs.YtlkmagmdhopcjaaGreat
namespace Go.Proofs.YtlkmagmdhopcjaaGreat
open Go.RowKit Go.Sort Go.Lib
set_option maxRecDepth 100000
section
variable (e:EN)
theorem chkEn_iff:qcp e=true↔qsv e∧qpc e∧qwv e∧e.z.size≤27∧qqr e.z=true∧(5≤e.ph→e.z.size=0):=by
 unfold qcp
 simp only [Bool.and_eq_true,decide_eq_true_eq]
 constructor
 ·rintro ⟨⟨⟨⟨a,b⟩,c⟩,d,f⟩,g⟩;exact ⟨a,b,c,f,d,g⟩
 ·rintro ⟨a,b,c,f,d,g⟩;exact ⟨⟨⟨⟨a,b⟩,c⟩,d,f⟩,g⟩
end
end Go.Proofs.YtlkmagmdhopcjaaGreat
namespace Go.Proofs.YtlkmagmdhopcjaaGreat
open Go.RowKit Go.Sort Go.Lib
set_option maxRecDepth 100000
def sameP (a b:EN):Prop:=a.id=b.id∧a.ph=b.ph∧a.qu=b.qu∧a.t=b.t∧a.bal=b.bal∧a.abal=b.abal∧a.seen=b.seen∧a.age=b.age∧a.pay=b.pay∧a.z=b.z
instance:DecidableEq AK:=fun x y=>decidable_of_iff (x.kind=y.kind∧x.frm=y.frm∧x.bal=y.bal∧x.t=y.t∧x.abal=y.abal∧x.ph=y.ph) ⟨fun h=>by cases x;cases y;simp_all,fun h=>by simp [h]⟩
instance (a b:EN):Decidable (sameP a b):=by unfold sameP;infer_instance
theorem qjy (a:EN):sameP a a:=⟨rfl,rfl,rfl,rfl,rfl,rfl,rfl,rfl,rfl,rfl⟩
section
variable (a b:EN)
end
def fewP (e:EN):Prop:=e.z.size≤100∧e.pay.size≤1000
instance (e:EN):Decidable (fewP e):=by unfold fewP;infer_instance
theorem few20_any (e:EN) (w:World):Calls Tryz.prog 58 #[.agg (encE e).toArray] w fun r w'=>r=.returned (.bool (decide (fewP e)))∧Below w.heap.size w w':=by
 have HB:Hid (∀ o1,Below w.heap.size w (w.alloc o1)):=hI (fun o1=>bel1 w o1)
 simp only [encE]
 go_enter Tryz.func58,Tryz.ntmps58
 go_wp2
 all_goals
  go_ret
  refine ⟨qel ?_,HB.out _⟩
  simp only [fewP,decide_eq_true_eq] at *
  grind
end Go.Proofs.YtlkmagmdhopcjaaGreat
namespace Go.Proofs.YtlkmagmdhopcjaaGreat
open Go.RowKit Go.Sort Go.Lib
set_option maxRecDepth 100000
structure RdT0 (w:World) (A:Option Addr) (d:Array EN):Prop where
 rd:RdK encE 10 w.heap.size w A d
 el:∀ i,i < d.size→RdE0 w d[i]!
theorem RdT0.below {w w':World} {A:Option Addr} {d:Array EN} (h:RdT0 w A d) (hb:Below w.heap.size w w'):RdT0 w' A d:=⟨(h.rd.below hb).mono hb.size,fun i hi=>(h.el i hi).below hb⟩
structure RdT (w:World) (A:Option Addr) (d:Array EN):Prop where
 rd:RdK encE 10 w.heap.size w A d
 el:∀ i,i < d.size→RdE w d[i]!
 sz:d.size≤1000
theorem RdT.below {w w':World} {A:Option Addr} {d:Array EN} (h:RdT w A d) (hb:Below w.heap.size w w'):RdT w' A d:=⟨(h.rd.below hb).mono hb.size,fun i hi=>(h.el i hi).below hb,h.sz⟩
theorem RdE.zero {w:World} {e:EN} (h:RdE w e):RdE0 w e:=⟨h.rd,h.cz⟩
theorem RdT.zero {w:World} {A:Option Addr} {d:Array EN} (h:RdT w A d):RdT0 w A d:=⟨h.rd,fun i hi=>(h.el i hi).zero⟩
def fewT (d:Array EN):Bool:=decide (d.size≤60) && (List.range d.size).all fun i=>decide (fewP d[i]!)
theorem qfs {d:Array EN}:fewT d=true↔d.size≤60∧∀ i,i < d.size→fewP d[i]!:=by
 unfold fewT
 rw [Bool.and_eq_true,decide_eq_true_eq,List.all_eq_true]
 constructor
 ·rintro ⟨h,g⟩;exact ⟨h,fun i hi=>of_decide_eq_true (g i (List.mem_range.2 hi))⟩
 ·rintro ⟨h,g⟩;exact ⟨h,fun i hi=>decide_eq_true (g i (List.mem_range.1 hi))⟩
theorem fewT_no {d:Array EN} (i:Nat) (hi:i < d.size) (h:decide (fewP d[i]!)=false):fewT d=false:=by
 rw [Bool.eq_false_iff]
 intro hf
 have:=(qfs.1 hf).2 i hi
 rw [decide_eq_false_iff_not] at h
 exact h this
theorem RdT0.few {w:World} {A:Option Addr} {d:Array EN} (h:RdT0 w A d) (hf:fewT d=true):RdT w A d :=
 ⟨h.rd,fun i hi=>(h.el i hi).few ((qfs.1 hf).2 i hi).1 ((qfs.1 hf).2 i hi).2,by have:=(qfs.1 hf).1;omega⟩
set_option maxHeartbeats 4000000 in
theorem few21_any (A:Option Addr) (c:Nat) (d:Array EN) (w:World) (h:RdT0 w A d) :
 Calls Tryz.prog 20 #[.slice A d.size c] w fun e w'=>e=.returned (.bool (fewT d))∧Below w.heap.size w w':=by
 have HR:=hI h
 clear h
 by_cases hs:d.size≤60
 ·have hs':decide ((60:Int) < (d.size:Int))=false:=decide_eq_false (by omega)
  go_enter Tryz.func20,Tryz.ntmps20
  go_wp2
  go_loopw [3] (fun i wr=>∃ k:Nat,i=.int .i64 k∧k≤d.size∧Hid (∀ j,j < k→fewP d[j]!)∧Hid (Below w.heap.size w wr)) (fun i _=>d.size - (intOf i).toNat)
  case atStart=>exact ⟨0,rfl,Nat.zero_le _,hI (fun j hj=>absurd hj (by omega)),hI (Below.refl _ _)⟩
  case round =>
   obtain ⟨k,rfl,hk,hall,HB⟩:=hrel
   by_cases hlt:k < d.size
   ·have kz:(k:Int) < (d.size:Int):=by omega
    obtain ⟨b,off,rfl,hbl,f⟩:=(HR.out.below HB.out).rd.at_ (i:=k) (by omega)
    have e0:=f 0 (by omega)
    have e1:=f 1 (by omega)
    have e2:=f 2 (by omega)
    have e3:=f 3 (by omega)
    have e4:=f 4 (by omega)
    have e5:=f 5 (by omega)
    have e6:=f 6 (by omega)
    have e7:=f 7 (by omega)
    have e8:=f 8 (by omega)
    have e9:=f 9 (by omega)
    have HF:=hI (fun W=>few20_any d[k]! W)
    obtain ⟨g,hg⟩:∃ g,decide (fewP d[k]!)=g:=⟨_,rfl⟩
    rw [hg] at HF
    have HG:=hI hg
    clear hg
    generalize d[k]! = x at e0 e1 e2 e3 e4 e5 e6 e7 e8 e9 HF
    clear f
    simp only [Nat.add_zero,encE,List.getElem!_cons_zero,List.getElem!_cons_succ] at e0 e1 e2 e3 e4 e5 e6 e7 e8 e9 HF
    cases g
    ·go_wp2_with (go_at_call 58;refine (HF.out _).mono ?_;rintro e w' ⟨rfl,hb'⟩)
     go_ret
     exact ⟨qac (fewT_no k hlt HG.out).symm,qaa HB.out hb'⟩
    ·go_wp2_with (go_at_call 58;refine (HF.out _).mono ?_;rintro e w' ⟨rfl,hb'⟩)
     go_roundw
     case rel =>
      refine ⟨k + 1,by go_num,by omega,hI (fun j hj=>?_),hI (qaa HB.out hb')⟩
      rcases Nat.lt_or_ge j k with h | h
      ·exact hall.out j h
      ·obtain rfl:j=k:=by omega
       exact of_decide_eq_true HG.out
     case measure=>simp [intOf];omega
   ·have hlt':decide ((k:Int) < (d.size:Int))=false:=by simp;omega
    go_wp2
    go_ret
    exact ⟨qac (qfs.2 ⟨hs,fun i hi=>hall.out i (by omega)⟩).symm,HB.out⟩
 ·have hs':decide ((60:Int) < (d.size:Int))=true:=decide_eq_true (by omega)
  have HE:Hid (fewT d=false):=by
   show _=_
   rw [Bool.eq_false_iff]
   intro hf
   exact hs (qfs.1 hf).1
  clear hs
  go_enter Tryz.func20,Tryz.ntmps20
  go_wp2
  go_ret
  exact ⟨qac HE.out.symm,Below.refl _ _⟩
def atT (d:Array EN) (i:Nat):Bool:=qcp d[i]! && decide (0 < i→d[i - 1]!.id < d[i]!.id)
def chkT (d:Array EN):Bool:=decide (d.size≤40) && (List.range d.size).all fun i=>atT d i
def tabE (d:Array EN):Int:=if chkT d=true then 0 else 2
theorem qct {d:Array EN}:chkT d=true↔d.size≤40∧∀ i,i < d.size→atT d i=true:=by
 unfold chkT
 rw [Bool.and_eq_true,decide_eq_true_eq,List.all_eq_true]
 constructor
 ·rintro ⟨h,g⟩;exact ⟨h,fun i hi=>g i (List.mem_range.2 hi)⟩
 ·rintro ⟨h,g⟩;exact ⟨h,fun i hi=>g i (List.mem_range.1 hi)⟩
theorem tabE_yes {d:Array EN} (h:d.size≤40) (g:∀ i,i < d.size→atT d i=true):tabE d=0:=by
 unfold tabE;rw [if_pos (qct.2 ⟨h,g⟩)]
theorem tabE_no {d:Array EN} (i:Nat) (hi:i < d.size) (h:atT d i=false):tabE d=2:=by
 unfold tabE
 rw [if_neg]
 intro hc
 rw [(qct.1 hc).2 i hi] at h
 cases h
theorem tabE_big {d:Array EN} (h:¬ d.size≤40):tabE d=2:=by
 unfold tabE
 rw [if_neg]
 intro hc
 exact h (qct.1 hc).1
theorem qut (e:EN):(enE e != 0) = !qcp e:=by unfold enE;cases qcp e <;> rfl
theorem qqs (d:Array EN):(tabE d != 0) = !chkT d:=by unfold tabE;cases chkT d <;> rfl
set_option maxHeartbeats 8000000 in
theorem qnz (A:Option Addr) (c:Nat) (d:Array EN) (w:World) (h:RdT w A d) :
 Calls Tryz.prog 123 #[.slice A d.size c] w fun e w'=>e=.returned (.int .i64 (tabE d))∧Below w.heap.size w w':=by
 have HR:=hI h
 clear h
 by_cases hs:d.size≤40
 ·have hs':decide ((40:Int) < (d.size:Int))=false:=decide_eq_false (by omega)
  go_enter Tryz.func123,Tryz.ntmps123
  go_wp2
  go_loopw [10] (fun i wr=>∃ k:Nat,i=.int .i64 k∧k≤d.size∧Hid (∀ j,j < k→atT d j=true)∧Hid (Below w.heap.size w wr)) (fun i _=>d.size - (intOf i).toNat)
  case atStart=>exact ⟨0,rfl,Nat.zero_le _,hI (fun j hj=>absurd hj (by omega)),hI (Below.refl _ _)⟩
  case round =>
   obtain ⟨k,rfl,hk,hall,HB⟩:=hrel
   by_cases hlt:k < d.size
   ·have kz:(k:Int) < (d.size:Int):=by omega
    obtain ⟨b,off,rfl,hbl,f⟩:=(HR.out.below HB.out).rd.at_ (i:=k) (by omega)
    have e0:=f 0 (by omega)
    have e1:=f 1 (by omega)
    have e2:=f 2 (by omega)
    have e3:=f 3 (by omega)
    have e4:=f 4 (by omega)
    have e5:=f 5 (by omega)
    have e6:=f 6 (by omega)
    have e7:=f 7 (by omega)
    have e8:=f 8 (by omega)
    have e9:=f 9 (by omega)
    have HC0:=hI (fun W (hbw:Below wr.heap.size wr W)=>qfe d[k]! W ((HR.out.below (qaa HB.out hbw)).el k hlt) ((HR.out.below (qaa HB.out hbw)).el k hlt).cz)
    have hg:=qut d[k]!
    have HPV:Hid (0 < k→wr.cell? ⟨b,off + (k - 1) * 10,none⟩=some (.int .i64 d[k - 1]!.id)):=fun h0=>by
     obtain ⟨b2,off2,e2,_,f2⟩:=(HR.out.below HB.out).rd.at_ (i:=k - 1) (by omega)
     injection e2 with e2
     injection e2 with eb eo
     subst eb eo
     have:=f2 0 (by omega)
     simp only [encE,Nat.add_zero,List.getElem!_cons_zero] at this
     exact this
    have HAT:Hid (atT d k=(qcp d[k]! && decide (0 < k→d[k - 1]!.id < d[k]!.id))):=rfl
    generalize d[k - 1]!.id=pid at HPV HAT
    obtain ⟨x,hx⟩:∃ x,d[k]! = x:=⟨_,rfl⟩
    rw [hx] at e0 e1 e2 e3 e4 e5 e6 e7 e8 e9 HC0 hg HAT
    clear f hx
    obtain ⟨g,hgx⟩:∃ g,qcp x=g:=⟨_,rfl⟩
    rw [hgx] at hg HAT
    clear hgx
    simp only [Nat.add_zero,encE,List.getElem!_cons_zero,List.getElem!_cons_succ] at e0 e1 e2 e3 e4 e5 e6 e7 e8 e9 HC0
    generalize enE x=en at hg HC0
    have HX:=hI (BoxW.init wr #[.int .i64 x.id,.int .i64 x.ph,.int .i64 x.qu,.int .i64 x.t,.int .i64 x.bal,.int .i64 x.abal,.int .i64 x.seen,.int .i64 x.age,.string x.pay,.slice x.A x.z.size x.c] 58)
    go_wp2_with fail
    have hl0:b < (wr.alloc (.cells #[.int .i64 x.id,.int .i64 x.ph,.int .i64 x.qu,.int .i64 x.t,.int .i64 x.bal,.int .i64 x.abal,.int .i64 x.seen,.int .i64 x.age,.string x.pay,.slice x.A x.z.size x.c] 58)).heap.size:=by simp;omega
    have HPV1:Hid (0 < k→(wr.alloc (.cells #[.int .i64 x.id,.int .i64 x.ph,.int .i64 x.qu,.int .i64 x.t,.int .i64 x.bal,.int .i64 x.abal,.int .i64 x.seen,.int .i64 x.age,.string x.pay,.slice x.A x.z.size x.c] 58)).cell? ⟨b,off + (k - 1) * 10,none⟩=some (.int .i64 pid)):=fun h0=>(World.cell?_alloc_lt wr _ _ hbl).trans (HPV.out h0)
    have HPV:=HPV1
    clear HPV1 e0 e1 e2 e3 e4 e5 e6 e7 e8 e9
    have HW1:=hI (bel1 wr (.cells #[.int .i64 x.id,.int .i64 x.ph,.int .i64 x.qu,.int .i64 x.t,.int .i64 x.bal,.int .i64 x.abal,.int .i64 x.seen,.int .i64 x.age,.string x.pay,.slice x.A x.z.size x.c] 58))
    have HBX:=hI (qab HB.out (.cells #[.int .i64 x.id,.int .i64 x.ph,.int .i64 x.qu,.int .i64 x.t,.int .i64 x.bal,.int .i64 x.abal,.int .i64 x.seen,.int .i64 x.age,.string x.pay,.slice x.A x.z.size x.c] 58))
    generalize wr.alloc (.cells #[.int .i64 x.id,.int .i64 x.ph,.int .i64 x.qu,.int .i64 x.t,.int .i64 x.bal,.int .i64 x.abal,.int .i64 x.seen,.int .i64 x.age,.string x.pay,.slice x.A x.z.size x.c] 58)=w1 at HX HBX HPV HW1 hl0 ⊢
    have HC:=hI (fun p:ExtW w1=>HC0.out p.to (qaa HW1.out p.h))
    clear HC0
    have b0:=fun p:ExtW w1=>p.cell (a:=⟨wr.heap.size,0,none⟩) HX.out.lt (HX.out.at_ 0)
    have b1:=fun p:ExtW w1=>p.cell (a:=⟨wr.heap.size,1,none⟩) HX.out.lt (HX.out.at_ 1)
    have b2:=fun p:ExtW w1=>p.cell (a:=⟨wr.heap.size,2,none⟩) HX.out.lt (HX.out.at_ 2)
    have b3:=fun p:ExtW w1=>p.cell (a:=⟨wr.heap.size,3,none⟩) HX.out.lt (HX.out.at_ 3)
    have b4:=fun p:ExtW w1=>p.cell (a:=⟨wr.heap.size,4,none⟩) HX.out.lt (HX.out.at_ 4)
    have b5:=fun p:ExtW w1=>p.cell (a:=⟨wr.heap.size,5,none⟩) HX.out.lt (HX.out.at_ 5)
    have b6:=fun p:ExtW w1=>p.cell (a:=⟨wr.heap.size,6,none⟩) HX.out.lt (HX.out.at_ 6)
    have b7:=fun p:ExtW w1=>p.cell (a:=⟨wr.heap.size,7,none⟩) HX.out.lt (HX.out.at_ 7)
    have b8:=fun p:ExtW w1=>p.cell (a:=⟨wr.heap.size,8,none⟩) HX.out.lt (HX.out.at_ 8)
    have b9:=fun p:ExtW w1=>p.cell (a:=⟨wr.heap.size,9,none⟩) HX.out.lt (HX.out.at_ 9)
    cases g
    ·have HF:Hid (tabE d=2):=tabE_no k hlt (by rw [HAT.out];rfl)
     have hg':(en != 0)=true:=hg
     clear hg HPV
     refine qad (by kernel_rfl) (by kernel_rfl) ?_
     repeat (first | go_big_quiet_step ((go_at_call 190;exact Calls.ext_of (HC.out _))) | quiet_step (fail))
     refine wpQuiet_nil ?_
     intro w' hw'
     obtain ⟨⟨W,hbW⟩,hw''⟩:=hw'
     have hw3:w'=W:=hw''
     subst hw3
     have HW:=hI (qaa HBX.out hbW)
     clear hbW hw'' b0 b1 b2 b3 b4 b5 b6 b7 b8 b9
     go_wp2
     go_ret
     exact ⟨qan HF.out.symm,HW.out⟩
    ·have hg':(en != 0)=false:=hg
     clear hg
     by_cases h0:0 < k
     ·have h0':decide ((0:Int) < (k:Int))=true:=decide_eq_true (by omega)
      obtain ⟨k',hk'⟩:∃ k',k' + 1=k:=⟨k - 1,by omega⟩
      have hsub:(k:Int) - 1=(k':Int):=by omega
      have kz':(k':Int) < (d.size:Int):=by omega
      have pv:=HPV.out h0
      rw [show k - 1=k' by omega] at pv
      have pb:=fun p:ExtW w1=>p.cell (a:=⟨b,off + k' * 10,none⟩) hl0 pv
      clear pv HPV
      by_cases hle:x.id≤pid
      ·have hle':decide (x.id≤pid)=true:=decide_eq_true hle
       have HF:Hid (tabE d=2):=tabE_no k hlt (by rw [HAT.out,Bool.true_and,decide_eq_false_iff_not];intro h;have:=h h0;omega)
       clear hle hk'
       refine qad (by kernel_rfl) (by kernel_rfl) ?_
       repeat (first | go_big_quiet_step ((go_at_call 190;exact Calls.ext_of (HC.out _))) | quiet_step (fail))
       refine wpQuiet_nil ?_
       intro w' hw'
       obtain ⟨⟨W,hbW⟩,hw''⟩:=hw'
       have hw3:w'=W:=hw''
       subst hw3
       have HW:=hI (qaa HBX.out hbW)
       clear hbW hw'' b0 b1 b2 b3 b4 b5 b6 b7 b8 b9
       go_wp2
       go_ret
       exact ⟨qan HF.out.symm,HW.out⟩
      ·have hle':decide (x.id≤pid)=false:=decide_eq_false hle
       have HT:Hid (atT d k=true):=by show _=_;rw [HAT.out,Bool.true_and,decide_eq_true_eq];intro _;omega
       clear hle hk'
       refine qad (by kernel_rfl) (by kernel_rfl) ?_
       repeat (first | go_big_quiet_step ((go_at_call 190;exact Calls.ext_of (HC.out _))) | quiet_step (fail))
       refine wpQuiet_nil ?_
       intro w' hw'
       obtain ⟨⟨W,hbW⟩,hw''⟩:=hw'
       have hw3:w'=W:=hw''
       subst hw3
       have HW:=hI (qaa HBX.out hbW)
       clear hbW hw'' b0 b1 b2 b3 b4 b5 b6 b7 b8 b9
       go_wp2
       go_roundw
       case rel =>
        refine ⟨k + 1,by go_num,by omega,hI (fun j hj=>?_),HW⟩
        rcases Nat.lt_or_ge j k with h | h
        ·exact hall.out j h
        ·obtain rfl:j=k:=by omega
         exact HT.out
       case measure=>simp [intOf];omega
     ·have h0':decide ((0:Int) < (k:Int))=false:=decide_eq_false (by omega)
      have HT:Hid (atT d k=true):=by show _=_;rw [HAT.out,Bool.true_and,decide_eq_true_eq];intro h;exact absurd h h0
      clear HPV
      refine qad (by kernel_rfl) (by kernel_rfl) ?_
      repeat (first | go_big_quiet_step ((go_at_call 190;exact Calls.ext_of (HC.out _))) | quiet_step (fail))
      refine wpQuiet_nil ?_
      intro w' hw'
      obtain ⟨⟨W,hbW⟩,hw''⟩:=hw'
      have hw3:w'=W:=hw''
      subst hw3
      have HW:=hI (qaa HBX.out hbW)
      clear hbW hw'' b0 b1 b2 b3 b4 b5 b6 b7 b8 b9
      go_wp2
      go_roundw
      case rel =>
       refine ⟨k + 1,by go_num,by omega,hI (fun j hj=>?_),HW⟩
       rcases Nat.lt_or_ge j k with h | h
       ·exact hall.out j h
       ·obtain rfl:j=k:=by omega
        exact HT.out
      case measure=>simp [intOf];omega
   ·have hlt':decide ((k:Int) < (d.size:Int))=false:=by simp;omega
    go_wp2
    go_ret
    exact ⟨qan (tabE_yes hs fun i hi=>hall.out i (by omega)).symm,HB.out⟩
 ·have hs':decide ((40:Int) < (d.size:Int))=true:=decide_eq_true (by omega)
  have HE:Hid (tabE d=2):=tabE_big hs
  clear hs
  go_enter Tryz.func123,Tryz.ntmps123
  go_wp2
  go_ret
  exact ⟨qan HE.out.symm,Below.refl _ _⟩
end Go.Proofs.YtlkmagmdhopcjaaGreat
