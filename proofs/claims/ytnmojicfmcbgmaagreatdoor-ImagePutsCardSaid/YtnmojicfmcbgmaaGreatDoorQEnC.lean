/- Texts that the law leans on. -/
import Derived.Deep.CutRange
import Derived.Test.YtnmojicfmcbgmaaGreatDoorQRead
import Derived.Test.YtnmojicfmcbgmaaGreatDoorQBase
import Derived.Lib.Strings
namespace Go.Proofs.YtnmojicfmcbgmaaGreatDoor
open Go.RowKit Go.Sort Go.Lib
set_option maxRecDepth 100000
theorem beqI_E (a b:Int):(a == b)=decide (a=b):=by by_cases h:a=b <;> simp [h]
set_option maxHeartbeats 4000000 in
theorem had_any (A:Option Addr) (c n:Nat) (z:Array AK) (q:AK) (w:World) (h:RdK encK 6 w.heap.size w A z) (hn:n≤z.size) (hs:z.size≤1000000) :
 Calls Tryz.prog 196 #[.slice A n c,.agg (encK q).toArray] w fun e w'=>e=.returned (.bool (hadN z n q))∧Below w.heap.size w w':=by
 have HR:=hI h
 clear h
 have HAD:Hid (hadN z n q=hadN z n q):=rfl
 have hbx:∀ W,Below (w.alloc (.cells (encK q).toArray 136)).heap.size (w.alloc (.cells (encK q).toArray 136)) W→∀ j,W.cell? ⟨w.heap.size,j,none⟩=(encK q).toArray[j]?:=fun W hb j=>(hb.cell (p:=⟨w.heap.size,j,none⟩) (by simp)).trans (qco w _ _ j)
 have HBX:=hI hbx
 have HB0:=hI (bel1 w (.cells (encK q).toArray 136))
 have HSZ:Hid ((w.alloc (.cells (encK q).toArray 136)).heap.size=w.heap.size + 1):=by show _=_;simp
 clear hbx
 obtain ⟨kind,frm,bal,t,abal,ph⟩:=q
 simp only [encK] at HBX HB0 HSZ ⊢
 go_enter Tryz.func196,Tryz.ntmps196
 go_wp2
 generalize w.alloc (.cells #[.int .i64 kind,.int .i64 frm,.int .i64 bal,.int .i64 t,.int .i64 abal,.int .i64 ph] 136)=w0 at HBX HB0 HSZ ⊢
 go_loopw [5] (fun i wr=>∃ k:Nat,i=.int .i64 k∧k≤n∧Hid (∀ j,j < k→qB z[j]! ⟨kind,frm,bal,t,abal,ph⟩=false)∧Hid (Below w0.heap.size w0 wr)) (fun i _=>n - (intOf i).toNat)
 case atStart=>exact ⟨0,rfl,Nat.zero_le _,hI (fun j hj=>absurd hj (by omega)),hI (Below.refl _ _)⟩
 case round =>
  obtain ⟨k,rfl,hk,hall,HB⟩:=hrel
  have HBW:=hI (HB0.out.trans (HB.out.mono HB0.out.size))
  by_cases hlt:k < n
  ·have kz:(k:Int) < (n:Int):=by omega
   obtain ⟨b,off,rfl,hbl,f⟩:=(HR.out.below HBW.out).at_ (i:=k) (by omega)
   have hbw:b < wr.heap.size:=Nat.lt_of_lt_of_le hbl HBW.out.size
   have hgw:w.heap.size < wr.heap.size:=Nat.lt_of_lt_of_le (by rw [HSZ.out];omega) HB.out.size
   have e0:=f 0 (by omega)
   have e1:=f 1 (by omega)
   have e2:=f 2 (by omega)
   have hb:=HBX.out wr HB.out
   obtain ⟨x,hx⟩:∃ x,z[k]! = x:=⟨_,rfl⟩
   rw [hx] at e0 e1 e2
   have HX:=hI hx
   simp only [Nat.add_zero,encK,List.getElem!_cons_zero,List.getElem!_cons_succ] at e0 e1 e2
   have q0:=fun p:ExtW wr=>p.cell (a:=⟨b,off + k * 6,none⟩) hbw e0
   have q1:=fun p:ExtW wr=>p.cell (a:=⟨b,off + k * 6 + 1,none⟩) hbw e1
   have q2:=fun p:ExtW wr=>p.cell (a:=⟨b,off + k * 6 + 2,none⟩) hbw e2
   have a0:=fun p:ExtW wr=>p.cell (a:=⟨w.heap.size,0,none⟩) hgw (hb 0)
   have a1:=fun p:ExtW wr=>p.cell (a:=⟨w.heap.size,1,none⟩) hgw (hb 1)
   have a2:=fun p:ExtW wr=>p.cell (a:=⟨w.heap.size,2,none⟩) hgw (hb 2)
   have HQ:Hid (qB z[k]! ⟨kind,frm,bal,t,abal,ph⟩=decide (x.kind=kind∧x.frm=frm∧x.bal=bal)):=by show _=_;rw [HX.out];rfl
   clear f e0 e1 e2 hb hx HX
   have hcase:(∃ g1 g2 g3:Bool,(x.kind == kind)=g1∧(x.frm == frm)=g2∧(x.bal == bal)=g3):=⟨_,_,_,rfl,rfl,rfl⟩
   obtain ⟨g1,g2,g3,h1,h2,h3⟩:=hcase
   have HG:Hid (qB z[k]! ⟨kind,frm,bal,t,abal,ph⟩=(g1 && (g2 && g3))):=by
    show _=_
    rw [HQ.out,←h1,←h2,←h3,Bool.decide_and,Bool.decide_and]
    simp only [beqI_E]
   clear HQ
   cases g1 <;> cases g2 <;> cases g3
   all_goals
    go_wp2_with fail
    refine qae (by kernel_rfl) (by kernel_rfl) ?_
    repeat (first | go_big_quiet_step (fail) | quiet_step (fail))
    refine wpQuiet_nil ?_
    intro w' hw'
    obtain ⟨⟨W,hbW⟩,hw''⟩:=hw'
    have hw3:w'=W:=hw''
    subst hw3
    have HW:=hI (HB.out.trans (hbW.mono HB.out.size))
    clear hbW hw'' q0 q1 q2 a0 a1 a2
    go_wp2
    first
     | (go_roundw
        case rel =>
         refine ⟨k + 1,by go_num,by omega,hI (fun j hj=>?_),HW⟩
         rcases Nat.lt_or_ge j k with h | h
         ·exact hall.out j h
         ·obtain rfl:j=k:=by omega
          exact HG.out
        case measure=>simp [intOf];omega)
     | (go_ret
        exact ⟨qag (qwd k (by omega) HG.out).symm,HB0.out.trans (HW.out.mono HB0.out.size)⟩)
  ·have hlt':decide ((k:Int) < (n:Int))=false:=by simp;omega
   go_wp2
   go_ret
   exact ⟨qag (hadN_no fun j hj=>hall.out j (by omega)).symm,HBW.out⟩
def qkj (z:Array AK):Bool:=(List.range z.size).all fun i=>ackB z[i]! && !hadN z i z[i]!
theorem qof {z:Array AK} (i:Nat) (hi:i < z.size) (h:(ackB z[i]! && !hadN z i z[i]!)=false):qkj z=false:=by
 unfold qkj
 rw [List.all_eq_false]
 exact ⟨i,List.mem_range.2 hi,by rw [h];exact Bool.false_ne_true⟩
theorem qqb {z:Array AK} (h:∀ i,i < z.size→(ackB z[i]! && !hadN z i z[i]!)=true):qkj z=true:=by
 unfold qkj
 rw [List.all_eq_true]
 exact fun i hi=>h i (List.mem_range.1 hi)
set_option maxHeartbeats 4000000 in
theorem acks_any (A:Option Addr) (c:Nat) (z:Array AK) (w:World) (h:RdK encK 6 w.heap.size w A z) (hc:z.size≤c) (hs:z.size≤1000) :
 Calls Tryz.prog 203 #[.slice A z.size c] w fun e w'=>e=.returned (.bool (qkj z && decide (z.size≤27)))∧Below w.heap.size w w':=by
 have HR:=hI h
 clear h
 go_enter Tryz.func203,Tryz.ntmps203
 go_wp2
 go_loopw [8] (fun i wr=>∃ k:Nat,i=.int .i64 k∧k≤z.size∧Hid (∀ j,j < k→(ackB z[j]! && !hadN z j z[j]!)=true)∧Hid (Below w.heap.size w wr)) (fun i _=>z.size - (intOf i).toNat)
 case atStart=>exact ⟨0,rfl,Nat.zero_le _,hI (fun j hj=>absurd hj (by omega)),hI (Below.refl _ _)⟩
 case round =>
  obtain ⟨k,rfl,hk,hall,HB⟩:=hrel
  by_cases hlt:k < z.size
  ·have kz:(k:Int) < (z.size:Int):=by omega
   obtain ⟨b,off,rfl,hbl,f⟩:=(HR.out.below HB.out).at_ (i:=k) (by omega)
   have e0:=f 0 (by omega)
   have e1:=f 1 (by omega)
   have e2:=f 2 (by omega)
   have e3:=f 3 (by omega)
   have e4:=f 4 (by omega)
   have e5:=f 5 (by omega)
   have HO:=hI (fun W=>of_any z[k]! W)
   have HA:=hI (fun W=>qyv z[k]! W)
   have HC:=hI (fun W (hb:Below w.heap.size w W)=>qyx (some ⟨b,off,none⟩) c k z z[k]! W ((HR.out.below hb).mono hb.size) (by omega) (by omega))
   obtain ⟨g1,hg1⟩:∃ g,ackB z[k]! = g:=⟨_,rfl⟩
   obtain ⟨g2,hg2⟩:∃ g,hadN z k z[k]! = g:=⟨_,rfl⟩
   rw [hg1] at HA
   rw [hg2] at HC
   have HG:Hid ((ackB z[k]! && !hadN z k z[k]!)=(g1 && !g2)):=by show _=_;rw [hg1,hg2]
   clear hg1 hg2
   obtain ⟨x,hx⟩:∃ x,z[k]! = x:=⟨_,rfl⟩
   rw [hx] at e0 e1 e2 e3 e4 e5 HO HA HC
   clear f hx
   obtain ⟨kind,frm,bal,t,abal,ph⟩:=x
   simp only [encK,Nat.add_zero,List.getElem!_cons_zero,List.getElem!_cons_succ] at e0 e1 e2 e3 e4 e5 HO HA HC
   have kc:(k:Int)≤(c:Int):=by omega
   have HBX:=hI (fun W (hb:Below (wr.alloc (.cells #[.int .i64 kind,.int .i64 frm,.int .i64 bal,.int .i64 t,.int .i64 abal,.int .i64 ph] 136)).heap.size (wr.alloc (.cells #[.int .i64 kind,.int .i64 frm,.int .i64 bal,.int .i64 t,.int .i64 abal,.int .i64 ph] 136)) W) (j:Nat)=>(hb.cell (p:=⟨wr.heap.size,j,none⟩) (by simp)).trans (qco wr #[.int .i64 kind,.int .i64 frm,.int .i64 bal,.int .i64 t,.int .i64 abal,.int .i64 ph] _ j))
   have HBB:=hI (qad HB.out (.cells #[.int .i64 kind,.int .i64 frm,.int .i64 bal,.int .i64 t,.int .i64 abal,.int .i64 ph] 136))
   go_wp2_with fail
   refine (HO.out _).mono ?_
   rintro e w1 ⟨rfl,hb1⟩
   have a0:=HBX.out w1 hb1 0
   have a1:=HBX.out w1 hb1 1
   have a2:=HBX.out w1 hb1 2
   have a3:=HBX.out w1 hb1 3
   have a4:=HBX.out w1 hb1 4
   have a5:=HBX.out w1 hb1 5
   have HB1:=hI hb1
   clear hb1
   go_wp2_with fail
   refine (HA.out _).mono ?_
   rintro e w2 ⟨rfl,hb2⟩
   have HB2:=hI (qac HBB.out (qac HB1.out hb2))
   clear hb2 HO HA HBX
   cases g1
   ·go_wp2
    go_ret
    refine ⟨qag ?_,HB2.out⟩
    rw [qof k hlt (by rw [HG.out];rfl)];rfl
   ·go_wp2_with fail
    refine (HC.out _ HB2.out).mono ?_
    rintro e w3 ⟨rfl,hb3⟩
    have HB3:=hI (qac HB2.out hb3)
    clear hb3 HC
    cases g2
    ·go_wp2
     go_roundw
     case rel =>
      refine ⟨k + 1,by go_num,by omega,hI (fun j hj=>?_),HB3⟩
      rcases Nat.lt_or_ge j k with h | h
      ·exact hall.out j h
      ·obtain rfl:j=k:=by omega
       exact HG.out
     case measure=>simp [intOf];omega
    ·go_wp2
     go_ret
     refine ⟨qag ?_,HB3.out⟩
     rw [qof k hlt (by rw [HG.out];rfl)];rfl
  ·have hlt':decide ((k:Int) < (z.size:Int))=false:=by simp;omega
   have HG:Hid (qkj z=true):=qqb fun i hi=>hall.out i (by omega)
   go_wp2
   go_ret
   refine ⟨qag ?_,HB.out⟩
   rw [HG.out]
   simp <;> omega
end Go.Proofs.YtnmojicfmcbgmaaGreatDoor
namespace Go.Proofs.YtnmojicfmcbgmaaGreatDoor
open Go.RowKit Go.Sort Go.Lib
set_option maxRecDepth 100000
def qld (e:EN):Prop:=0≤e.t∧e.t≤1000000∧0≤e.bal∧e.bal≤1000000∧0≤e.abal∧e.abal≤e.bal∧0≤e.seen∧e.seen≤1000000∧0≤e.age∧e.age≤1000000
instance (e:EN):Decidable (qld e):=by unfold qld;infer_instance
def qjp (e:EN):Prop:=(((2≤e.ph∧e.ph≤4)∨e.ph=5∨e.ph=6∨0 < e.abal)↔0 < e.t)∧(0 < e.abal∨e.ph=5∨e.ph=6∨(0 < e.bal↔(e.ph=3∨e.ph=4)))
instance (e:EN):Decidable (qjp e):=by unfold qjp;infer_instance
def qmp (e:EN):Prop:=10≤e.id∧e.id≤999999∧e.id % 10≠0∧1≤e.ph∧e.ph≤6∧1≤e.qu∧e.qu≤511∧e.pay.size≤300
instance (e:EN):Decidable (qmp e):=by unfold qmp;infer_instance
def qgc (e:EN):Bool:=decide (qmp e) && decide (qld e) && decide (qjp e) && (qkj e.z && decide (e.z.size≤27)) && decide (5≤e.ph→e.z.size=0)
def enE (e:EN):Int:=if qgc e=true then 0 else 2
structure BoxW (w:World) (cs:Array Value) (W:World):Prop where
 b:Below w.heap.size w W
 lt:w.heap.size < W.heap.size
 at_:∀ j,W.cell? ⟨w.heap.size,j,none⟩=cs[j]?
theorem BoxW.init (w:World) (cs:Array Value) (t:TypeId):BoxW w cs (w.alloc (.cells cs t)):=⟨bel1 w _,by simp,fun j=>qco w cs t j⟩
theorem BoxW.next {w W W':World} {cs:Array Value} (h:BoxW w cs W) (hb:Below W.heap.size W W'):BoxW w cs W' :=
 ⟨qac h.b hb,Nat.lt_of_lt_of_le h.lt hb.size,fun j=>(hb.cell (p:=⟨w.heap.size,j,none⟩) h.lt).trans (h.at_ j)⟩
theorem qsf (id:Int):(qez id != 0) = !decide (10≤id∧id≤999999∧id % 10≠0):=by
 unfold qez
 by_cases h:id < 10∨999999 < id∨id % 10=0
 ·rw [if_pos h,decide_eq_false (by omega)];rfl
 ·rw [if_neg h,decide_eq_true (by omega)];rfl
section
variable (e:EN)
set_option maxHeartbeats 4000000 in
theorem nums_any (w:World):Calls Tryz.prog 201 #[.agg (encE e).toArray] w fun r w'=>r=.returned (.bool (decide (qld e)))∧Below w.heap.size w w':=by
 have hb:Below w.heap.size w (w.alloc (.cells (encE e).toArray 132)):=bel1 w _
 obtain ⟨id,ph,qu,t,bal,abal,seen,age,pay,A,c,z⟩:=e
 simp only [encE] at hb ⊢
 go_enter Tryz.func201,Tryz.ntmps201
 go_wp2_with (go_at_call 211;refine (qnq _ _ _).mono ?_;rintro e w' ⟨rfl,rfl⟩)
 all_goals
  go_ret
  refine ⟨qfo ?_,hb⟩
  simp only [qld,withB,decide_eq_true_eq,decide_eq_false_iff_not,Bool.false_eq_true,false_iff] at *
  omega
set_option maxHeartbeats 4000000 in
theorem told_any (w:World):Calls Tryz.prog 202 #[.agg (encE e).toArray] w fun r w'=>r=.returned (.bool (decide (qjp e)))∧Below w.heap.size w w':=by
 obtain ⟨id,ph,qu,t,bal,abal,seen,age,pay,A,c,z⟩:=e
 simp only [encE]
 go_enter Tryz.func202,Tryz.ntmps202
 go_wp2_with (first | (go_at_call 212;refine (qyu _ _).mono ?_;rintro e w' ⟨rfl,rfl⟩) | (go_at_call 199;refine (qnp _ _).mono ?_;rintro e w' ⟨rfl,rfl⟩))
 all_goals
  go_ret
  refine ⟨qfo ?_,bel1 w _⟩
  simp only [qjp,propB,setlB,decide_eq_true_eq,decide_eq_false_iff_not] at *
  grind
set_option maxHeartbeats 8000000 in
theorem qxc (w:World) (hr:RdE w e) (hc:e.z.size≤e.c):Calls Tryz.prog 180 #[.agg (encE e).toArray] w fun r w'=>r=.returned (.int .i64 (enE e))∧Below w.heap.size w w':=by
 have HK:=hI (fun W (hb:Below w.heap.size w W)=>acks_any e.A e.c e.z W (hr.below hb).rd hc hr.sz)
 have HN:=hI (fun W=>nums_any e W)
 have HT:=hI (fun W=>told_any e W)
 have HX:=hI (BoxW.init w (encE e).toArray 132)
 have hid:=qsf e.id
 have hcn:=cntN_zero e.qu
 have HP:=hI hr.pz
 have hps:(e.pay.size:Int)≤1000:=by have:=hr.pz;omega
 clear hr hc
 simp only [encE] at HN HT HX ⊢
 go_enter Tryz.func180,Tryz.ntmps180
 go_wp2_with (first
  | (go_at_call 198;refine (qyt _ _).mono ?_;rintro _ _ ⟨rfl,rfl⟩)
  | (go_at_call 199;refine (qnp _ _).mono ?_;rintro _ _ ⟨rfl,rfl⟩)
  | (go_at_call 167;refine (qdj _ _).mono ?_;rintro _ _ ⟨rfl,rfl⟩)
  | (go_at_call 200;refine (qyz _ _).mono ?_;rintro _ _ ⟨rfl,rfl⟩)
  | (go_at_call 201;refine (HN.out _).mono ?_;rintro _ w1 ⟨rfl,hb⟩;have HX:=hI (HX.out.next hb);clear hb;have c0:=HX.out.at_ 0;have c1:=HX.out.at_ 1;have c2:=HX.out.at_ 2;have c3:=HX.out.at_ 3;have c4:=HX.out.at_ 4;have c5:=HX.out.at_ 5;have c6:=HX.out.at_ 6;have c7:=HX.out.at_ 7;have c8:=HX.out.at_ 8;have c9:=HX.out.at_ 9)
  | (go_at_call 202;refine (HT.out _).mono ?_;rintro _ w2 ⟨rfl,hb⟩;have HX:=hI (HX.out.next hb);clear hb;have c1:=HX.out.at_ 1;have c9:=HX.out.at_ 9)
  | (go_at_call 203;refine (HK.out _ HX.out.b).mono ?_;rintro _ w3 ⟨rfl,hb⟩;have HX:=hI (HX.out.next hb);clear hb;have c1:=HX.out.at_ 1;have c9:=HX.out.at_ 9))
 all_goals
  go_ret
  refine ⟨qaf ?_,HX.out.b⟩
  simp only [enE,qgc,qmp,openB,setlB,decide_eq_true_eq,decide_eq_false_iff_not] at *
  grind
end
end Go.Proofs.YtnmojicfmcbgmaaGreatDoor
namespace Go.Proofs.YtnmojicfmcbgmaaGreatDoor
open Go.RowKit Go.Sort Go.Lib
set_option maxRecDepth 100000
theorem qxd (id:Int):(qbf id == 0) = !decide (10≤id∧id≤999999∧id % 10≠0):=by
 unfold qbf
 by_cases h:id < 10∨999999 < id∨id % 10=0
 ·rw [if_pos h,decide_eq_false (by omega)];rfl
 ·rw [if_neg h,decide_eq_true (by omega)];exact beq_eq_false_iff_ne.2 (by omega)
section
variable (e:EN)
theorem chkEn_iff:qgc e=true↔qmp e∧qld e∧qjp e∧e.z.size≤27∧qkj e.z=true∧(5≤e.ph→e.z.size=0):=by
 unfold qgc
 simp only [Bool.and_eq_true,decide_eq_true_eq]
 constructor
 ·rintro ⟨⟨⟨⟨a,b⟩,c⟩,d,f⟩,g⟩;exact ⟨a,b,c,f,d,g⟩
 ·rintro ⟨a,b,c,f,d,g⟩;exact ⟨⟨⟨⟨a,b⟩,c⟩,d,f⟩,g⟩
set_option maxHeartbeats 8000000 in
theorem qxe (w:World) (hr:RdE w e) (hc:e.z.size≤e.c):Calls Tryz.prog 173 #[.agg (encE e).toArray] w fun r w'=>r=.returned (.int .i64 (enE e))∧Below w.heap.size w w':=by
 have HX:=hI (BoxW.init w (encE e).toArray 132)
 have HSP:=hI (fun W=>qen e.id W)
 have z0:=qxd e.id
 have HR:=hI hr
 have HC:=hI hc
 have hps:(e.pay.size:Int)≤1000:=by have:=hr.pz;omega
 have hzs:(e.z.size:Int)≤1000:=by have:=hr.sz;omega
 clear hr hc
 by_cases hh:qmp e∧qld e∧qjp e∧e.z.size≤27
 ·have HH:=hI hh
  have HE:Hid (enE e=if qkj e.z=true∧(5≤e.ph→e.z.size=0) then 0 else 2):=by
   have hi:=chkEn_iff e
   show _=_
   unfold enE
   by_cases hc:qkj e.z=true∧(5≤e.ph→e.z.size=0)
   ·rw [if_pos hc,if_pos (hi.2 ⟨hh.1,hh.2.1,hh.2.2.1,hh.2.2.2,hc⟩)]
   ·rw [if_neg hc,if_neg fun h=>hc (hi.1 h).2.2.2.2]
  clear hh
  generalize qbf e.id=sf at z0 HSP
  simp only [encE] at HX ⊢
  go_enter Tryz.func173,Tryz.ntmps173
  go_wp2_with fail
  refine (HSP.out _).mono ?_
  rintro _ _ ⟨rfl,rfl⟩
  generalize w.alloc (.cells #[.int .i64 e.id,.int .i64 e.ph,.int .i64 e.qu,.int .i64 e.t,.int .i64 e.bal,.int .i64 e.abal,.int .i64 e.seen,.int .i64 e.age,.string e.pay,.slice e.A e.z.size e.c] 132)=w0 at HX ⊢
  have c1:=HX.out.at_ 1
  have c2:=HX.out.at_ 2
  have c3:=HX.out.at_ 3
  have c4:=HX.out.at_ 4
  have c5:=HX.out.at_ 5
  have c6:=HX.out.at_ 6
  have c7:=HX.out.at_ 7
  have c8:=HX.out.at_ 8
  have c9:=HX.out.at_ 9
  obtain ⟨⟨d1,d2,d3,d4,d5,d6,d7,d8⟩,⟨d9,d10,d11,d12,d13,d14,d15,d16,d17,d18⟩,_,d19⟩:=HH.out
  have z0':(sf == 0)=false:=by rw [z0,decide_eq_true ⟨d1,d2,d3⟩];rfl
  clear z0 d1 d2 d3
  go_upto_region 6 with fail
  go_cut [107] from 96 to 107 (fun v wx=>v=.bool false∧wx=w0)
  case first =>
   have HT:=hI HH.out.2.2.1
   clear d7 d8 d14 d15 d16 d17 d18 d19 d11 d12
   go_wp2
   all_goals first
    | (go_meet;exact ⟨rfl,rfl⟩)
    | (go_meet;refine ⟨congrArg Value.bool ?_,rfl⟩;have hh:=HT.out;clear HX HSP HR HC HH HE HT c1 c2 c3 c4 c5 c6 c7 c8 c9;simp only [qjp] at * <;> grind)
    | (exfalso
       have hh:=HT.out
       clear HX HSP HR HC HH HE HT c1 c2 c3 c4 c5 c6 c7 c8 c9
       simp only [qjp] at * <;> grind)
  case rest =>
   obtain ⟨rfl,rfl⟩:=hcut
   go_upto_region 8 with fail
   go_cut [135] from 108 to 135 (fun v wx=>v=.bool false∧wx=wc)
   case first =>
    have HT:=hI HH.out.2.2.1
    clear d7 d8 d14 d15 d16 d17 d18 d19 d11 d12
    obtain ⟨g1,h1⟩:∃ g,(e.abal == 0)=g:=⟨_,rfl⟩
    obtain ⟨g2,h2⟩:∃ g,(e.ph == 3)=g:=⟨_,rfl⟩
    obtain ⟨g3,h3⟩:∃ g,(e.ph == 4)=g:=⟨_,rfl⟩
    cases g1 <;> cases g2 <;> cases g3
    all_goals go_wp2
    all_goals first
     | (go_meet;exact ⟨rfl,rfl⟩)
     | (go_meet;refine ⟨congrArg Value.bool ?_,rfl⟩;have hh:=HT.out;clear HX HSP HR HC HH HE HT c1 c2 c3 c4 c5 c6 c7 c8 c9;simp only [qjp] at * <;> grind)
     | (exfalso
        have hh:=HT.out
        clear HX HSP HR HC HH HE HT c1 c2 c3 c4 c5 c6 c7 c8 c9
        simp only [qjp] at * <;> grind)
   case rest =>
    obtain ⟨rfl,rfl⟩:=hcut
    clear c1 c2 c3 c4 c5 c6 c7 c8 c9 d4 d5 d6 d7 d8 d9 d10 d11 d12 d13 d14 d15 d16 d17 d18 d19
    go_wp2
    go_loopw [5] (fun i wr=>∃ k:Nat,i=.int .i64 k∧k≤e.z.size∧Hid (0 < k→e.ph < 5)∧Hid (∀ j,j < k→(ackB e.z[j]! && !hadN e.z j e.z[j]!)=true)∧Hid (BoxW w #[.int .i64 e.id,.int .i64 e.ph,.int .i64 e.qu,.int .i64 e.t,.int .i64 e.bal,.int .i64 e.abal,.int .i64 e.seen,.int .i64 e.age,.string e.pay,.slice e.A e.z.size e.c] wr)) (fun i _=>e.z.size - (intOf i).toNat)
    case atStart=>exact ⟨0,rfl,Nat.zero_le _,hI (fun h=>absurd h (by omega)),hI (fun j hj=>absurd hj (by omega)),HX⟩
    case round =>
     obtain ⟨k,rfl,hk,hph,hall,HB⟩:=hrel
     have hlw:=HB.out.lt
     have c1:=HB.out.at_ 1
     have c9:=HB.out.at_ 9
     by_cases hlt:k < e.z.size
     ·have kz:(k:Int) < (e.z.size:Int):=by omega
      have kc:(k:Int)≤(e.c:Int):=by have:=HC.out;omega
      have a1:=fun p:ExtW wr=>p.cell (a:=⟨w.heap.size,1,none⟩) hlw (HB.out.at_ 1)
      have a9:=fun p:ExtW wr=>p.cell (a:=⟨w.heap.size,9,none⟩) hlw (HB.out.at_ 9)
      obtain ⟨b,off,hA,hbl,f⟩:=(HR.out.below HB.out.b).rd.at_ (i:=k) (by omega)
      have HRD:=hI (fun p:ExtW wr=>(HR.out.below (qac HB.out.b p.h)).rd)
      rw [hA] at a9 c9
      have e0:=fun p:ExtW wr=>p.cell (a:=⟨b,off + k * 6 + 0,none⟩) hbl (f 0 (by omega))
      have e1:=fun p:ExtW wr=>p.cell (a:=⟨b,off + k * 6 + 1,none⟩) hbl (f 1 (by omega))
      have e2:=fun p:ExtW wr=>p.cell (a:=⟨b,off + k * 6 + 2,none⟩) hbl (f 2 (by omega))
      have e3:=fun p:ExtW wr=>p.cell (a:=⟨b,off + k * 6 + 3,none⟩) hbl (f 3 (by omega))
      have e4:=fun p:ExtW wr=>p.cell (a:=⟨b,off + k * 6 + 4,none⟩) hbl (f 4 (by omega))
      have e5:=fun p:ExtW wr=>p.cell (a:=⟨b,off + k * 6 + 5,none⟩) hbl (f 5 (by omega))
      have HAk:=hI (fun W=>rAck_any e.z[k]! W)
      have HHd:=hI (fun p:ExtW wr=>had_any e.A e.c k e.z e.z[k]! p.to (HRD.out p) (by omega) (by have:=HR.out.sz;omega))
      rw [hA] at HHd
      obtain ⟨g1,hg1⟩:∃ g,ackB e.z[k]! = g:=⟨_,rfl⟩
      obtain ⟨g2,hg2⟩:∃ g,hadN e.z k e.z[k]! = g:=⟨_,rfl⟩
      rw [hg1] at HAk
      rw [hg2] at HHd
      have HG:Hid ((ackB e.z[k]! && !hadN e.z k e.z[k]!)=(g1 && !g2)):=by show _=_;rw [hg1,hg2]
      clear hg1 hg2
      obtain ⟨x,hx⟩:∃ x,e.z[k]! = x:=⟨_,rfl⟩
      rw [hx] at e0 e1 e2 e3 e4 e5 HAk HHd
      clear f hx hA HRD
      simp only [encK,Nat.add_zero,List.getElem!_cons_zero,List.getElem!_cons_succ] at e0 e1 e2 e3 e4 e5 HAk HHd
      by_cases h5:5≤e.ph
      ·have h5':decide (5≤e.ph)=true:=decide_eq_true h5
       have HF:Hid (enE e=2):=by show _=_;rw [HE.out,if_neg];rintro ⟨_,h⟩;have:=h h5;omega
       clear e0 e1 e2 e3 e4 e5
       go_wp2_with fail
       refine qae (by kernel_rfl) (by kernel_rfl) ?_
       repeat (first | go_big_quiet_step (fail) | quiet_step (fail))
       refine wpQuiet_nil ?_
       intro w' hw'
       obtain ⟨⟨W,hbW⟩,hw''⟩:=hw'
       have hw3:w'=W:=hw''
       subst hw3
       have HW:=hI (HB.out.next hbW)
       clear hbW hw'' a1 a9
       go_wp2
       go_ret
       exact ⟨qaf HF.out.symm,HW.out.b⟩
      ·have h5':decide (5≤e.ph)=false:=decide_eq_false h5
       have HF:Hid ((g1 && !g2)=false→enE e=2):=fun h=>by
        rw [HE.out,if_neg]
        rintro ⟨h',_⟩
        rw [qof k hlt (by rw [HG.out];exact h)] at h'
        cases h'
       have hph':e.ph < 5:=by omega
       have HPH:=hI hph'
       clear h5 hph hph'
       cases g1 <;> cases g2
       all_goals
        go_wp2_with fail
        refine qae (by kernel_rfl) (by kernel_rfl) ?_
        repeat (first | go_big_quiet_step ((first | (go_at_call 195;exact Calls.ext_of (HAk.out _)) | (go_at_call 196;exact Calls.ext_of (HHd.out _)))) | quiet_step (fail))
        refine wpQuiet_nil ?_
        intro w' hw'
        obtain ⟨⟨W,hbW⟩,hw''⟩:=hw'
        have hw3:w'=W:=hw''
        subst hw3
        have HW:=hI (HB.out.next hbW)
        clear hbW hw'' a1 a9 e0 e1 e2 e3 e4 e5
        go_wp2
        first
         | (go_ret
            exact ⟨qaf (HF.out rfl).symm,HW.out.b⟩)
         | (go_roundw
            case rel =>
             refine ⟨k + 1,by go_num,by omega,hI (fun _=>HPH.out),hI (fun j hj=>?_),HW⟩
             rcases Nat.lt_or_ge j k with h | h
             ·exact hall.out j h
             ·obtain rfl:j=k:=by omega
              exact HG.out
            case measure=>simp [intOf];omega)
     ·have hlt':decide ((k:Int) < (e.z.size:Int))=false:=by simp;omega
      have h0:5≤e.ph→e.z.size=0:=fun h5=>by
       rcases Nat.eq_zero_or_pos k with h | h
       ·omega
       ·have:=hph.out h;omega
      have HF:Hid (enE e=0):=by
       show _=_
       rw [HE.out,if_pos ⟨qqb fun i hi=>hall.out i (by omega),h0⟩]
      clear h0
      go_wp2
      go_ret
      exact ⟨qaf HF.out.symm,HB.out.b⟩
 ·have HE:Hid (enE e=2):=by
   show _=_
   unfold enE qgc
   rw [if_neg]
   intro h
   simp only [Bool.and_eq_true,decide_eq_true_eq] at h
   exact hh ⟨h.1.1.1.1,h.1.1.1.2,h.1.1.2,h.1.2.2⟩
  have HH:=hI hh
  clear hh
  generalize qbf e.id=sf at z0 HSP
  simp only [encE] at HX ⊢
  go_enter Tryz.func173,Tryz.ntmps173
  go_wp2_with fail
  refine (HSP.out _).mono ?_
  rintro _ _ ⟨rfl,rfl⟩
  generalize w.alloc (.cells #[.int .i64 e.id,.int .i64 e.ph,.int .i64 e.qu,.int .i64 e.t,.int .i64 e.bal,.int .i64 e.abal,.int .i64 e.seen,.int .i64 e.age,.string e.pay,.slice e.A e.z.size e.c] 132)=w0 at HX ⊢
  have c1:=HX.out.at_ 1
  have c2:=HX.out.at_ 2
  have c3:=HX.out.at_ 3
  have c4:=HX.out.at_ 4
  have c5:=HX.out.at_ 5
  have c6:=HX.out.at_ 6
  have c7:=HX.out.at_ 7
  have c8:=HX.out.at_ 8
  have c9:=HX.out.at_ 9
  go_wp2
  all_goals first
   | (go_ret
      exact ⟨qaf HE.out.symm,HX.out.b⟩)
   | (exfalso
      have hh:=HH.out
      simp only [qmp,qld,qjp] at *
      clear HX HSP HR HC HH HE c1 c2 c3 c4 c5 c6 c7 c8 c9
      grind)
end
end Go.Proofs.YtnmojicfmcbgmaaGreatDoor
namespace Go.Proofs.YtnmojicfmcbgmaaGreatDoor
open Go.RowKit Go.Sort Go.Lib
set_option maxRecDepth 100000
theorem ak_ext {x y:AK} (h1:x.kind=y.kind) (h2:x.frm=y.frm) (h3:x.bal=y.bal) (h4:x.t=y.t) (h5:x.abal=y.abal) (h6:x.ph=y.ph):x=y:=by
 obtain ⟨a,b,c,d,e,f⟩:=x
 obtain ⟨a',b',c',d',e',f'⟩:=y
 simp only at h1 h2 h3 h4 h5 h6
 subst h1 h2 h3 h4 h5 h6
 rfl
instance:DecidableEq AK:=fun x y=>decidable_of_iff (x.kind=y.kind∧x.frm=y.frm∧x.bal=y.bal∧x.t=y.t∧x.abal=y.abal∧x.ph=y.ph) ⟨fun h=>ak_ext h.1 h.2.1 h.2.2.1 h.2.2.2.1 h.2.2.2.2.1 h.2.2.2.2.2,fun h=>by subst h;exact ⟨rfl,rfl,rfl,rfl,rfl,rfl⟩⟩
theorem qle {α:Type} [Inhabited α] {d1 d2:Array α} (hs:d1.size=d2.size) (h:∀ j,j < d1.size→d1[j]! = d2[j]!):d1=d2 :=
 Array.ext hs fun t h1 h2=>by have:=h t h1;rwa [getElem!_pos d1 t h1,getElem!_pos d2 t h2] at this
theorem neK_run (x y:AK) (w:World):(binOp .neq 136 (.agg #[.int .i64 x.kind,.int .i64 x.frm,.int .i64 x.bal,.int .i64 x.t,.int .i64 x.abal,.int .i64 x.ph]) (.agg #[.int .i64 y.kind,.int .i64 y.frm,.int .i64 y.bal,.int .i64 y.t,.int .i64 y.abal,.int .i64 y.ph])).run Tryz.prog w=.ok (.bool (!decide (x=y))) w:=by
 have hS:Tryz.prog.underlying 136 = some (.struct (Tryz.prog.fieldsOf 136)):=by kernel_rfl
 have hp:Tryz.prog.stoodInHeld 136 = false:=by kernel_rfl
 have u3:=Tryz.underlying3
 rw [run_neq_struct,show (10000:Nat)=9999 + 1 from rfl,run_equalIn_agg w 9999 136 _ _ hS hp]
 simp only [Program.fieldsOf,Tryz.underlying136]
 go_simp
 obtain ⟨a,b,c,d,e,f⟩:=x
 obtain ⟨a',b',c',d',e',f'⟩:=y
 simp only [AK.mk.injEq]
 grind
set_option maxHeartbeats 2000000 in
theorem SameAcks0 (A1 A2:Option Addr) (c1 c2:Nat) (d1 d2:Array AK) (B1 B2:Nat) (w:World) (h1:RdK encK 6 B1 w A1 d1) (h2:RdK encK 6 B2 w A2 d2) (_hn:d1.size≤100000000) (hm:d2.size≤100000000) :
 Calls Tryz.prog 178 #[.slice A1 d1.size c1,.slice A2 d2.size c2] w fun e w'=>e=.returned (.bool (decide (d1=d2)))∧∃ n,w'=w.drewN n:=by
 by_cases hs:d1.size=d2.size
 ·have hb:((d1.size:Int) != (d2.size:Int))=false:=by simp [hs]
  have HS:=hI hs
  have hge:d1.size≤d2.size:=by omega
  clear hs
  go_enter Tryz.func178,Tryz.ntmps178
  go_wp2
  go_loopw [5] (fun i wr=>∃ k n:Nat,k≤d1.size∧i=.int .i64 k∧wr=w.drewN n∧∀ j,j < k→d1[j]! = d2[j]!) (fun i _=>d1.size - (intOf i).toNat)
  case atStart=>exact ⟨0,0,Nat.zero_le _,rfl,rfl,fun j hj=>absurd hj (by omega)⟩
  case round =>
   obtain ⟨k,n,hk,rfl,rfl,hj⟩:=hrel
   have HJ:=hI hj;clear hj
   by_cases hlt:k < d1.size
   ·obtain ⟨b1,o1,rfl,_,f1⟩:=h1.at_ hlt
    obtain ⟨b2,o2,rfl,_,f2⟩:=h2.at_ (i:=k) (by omega)
    have e10:=f1 0 (by omega)
    have e11:=f1 1 (by omega)
    have e12:=f1 2 (by omega)
    have e13:=f1 3 (by omega)
    have e14:=f1 4 (by omega)
    have e15:=f1 5 (by omega)
    have e20:=f2 0 (by omega)
    have e21:=f2 1 (by omega)
    have e22:=f2 2 (by omega)
    have e23:=f2 3 (by omega)
    have e24:=f2 4 (by omega)
    have e25:=f2 5 (by omega)
    have hnx:=neK_run d1[k]! d2[k]!
    generalize hx:d1[k]! = x at e10 e11 e12 e13 e14 e15 hnx
    generalize hy:d2[k]! = y at e20 e21 e22 e23 e24 e25 hnx
    have HXX:=hI hx;clear hx
    have HYY:=hI hy;clear hy
    simp only [Nat.add_zero,encK,List.getElem!_cons_zero,List.getElem!_cons_succ] at e10 e11 e12 e13 e14 e15 e20 e21 e22 e23 e24 e25
    clear f1 f2
    have kz:(k:Int) < (d1.size:Int):=by omega
    have kz2:(k:Int) < (d2.size:Int):=by omega
    by_cases hxy:x=y
    ·have hd:decide (x=y)=true:=by simp [hxy]
     have HXY:=hI hxy;clear hxy
     rw [hd] at hnx
     clear hd
     go_wp2
     go_quiet (fail)
     go_wp2
     go_roundw
     case rel=>exact ⟨k + 1,_,by omega,by go_num,rfl,fun j hj=>by
      rcases Nat.lt_or_ge j k with h | h
      ·exact HJ.out j h
      ·obtain rfl:j=k:=by omega
       rw [HXX.out,HYY.out];exact HXY.out⟩
     case measure=>simp [intOf];omega
    ·have hd:decide (x=y)=false:=by simp [hxy]
     have HXY:=hI hxy;clear hxy
     rw [hd] at hnx
     clear hd
     go_wp2
     go_quiet (fail)
     go_wp2
     go_ret
     exact ⟨qag (by symm;rw [decide_eq_false_iff_not];rintro rfl;exact HXY.out (by rw [←HXX.out,←HYY.out])),_,World.drewN_drewN _ _ _⟩
   ·have hlt':decide ((k:Int) < (d1.size:Int))=false:=by simp;omega
    go_wp2
    go_ret
    exact ⟨qag (by symm;rw [decide_eq_true_iff];exact qle HS.out fun j hj=>HJ.out j (by omega)),n,rfl⟩
 ·have hb:((d1.size:Int) != (d2.size:Int))=true:=by simp;omega
  have HS:=hI hs
  clear hs
  go_enter Tryz.func178,Tryz.ntmps178
  go_wp2
  go_ret
  exact ⟨qag (by symm;rw [decide_eq_false_iff_not];rintro rfl;exact HS.out rfl),0,rfl⟩
theorem qqc (A1 A2:Option Addr) (c1 c2:Nat) (d1 d2:Array AK) (B1 B2:Nat) (w:World) (h1:RdK encK 6 B1 w A1 d1) (h2:RdK encK 6 B2 w A2 d2) (hn:d1.size≤100000000) (hm:d2.size≤100000000) :
 Calls Tryz.prog 178 #[.slice A1 d1.size c1,.slice A2 d2.size c2] w fun e w'=>e=.returned (.bool (decide (d1=d2)))∧Below w.heap.size w w' :=
 (SameAcks0 A1 A2 c1 c2 d1 d2 B1 B2 w h1 h2 hn hm).mono fun _ _ ⟨he,n,hw⟩=>⟨he,by rw [hw];exact qax (Below.refl _ _) n⟩
end Go.Proofs.YtnmojicfmcbgmaaGreatDoor
namespace Go.Proofs.YtnmojicfmcbgmaaGreatDoor
open Go.RowKit Go.Sort Go.Lib
set_option maxRecDepth 100000
theorem str_eq_E {a b:ByteArray}:(a.toList == b.toList)=decide (a=b):=by
 by_cases h:a=b
 ·subst h;simp
 ·have:a.toList≠b.toList:=fun e=>h (by
   rw [Lib.toList_data,Lib.toList_data] at e
   exact ByteArray.ext (Array.ext' e))
  simp [h,this]
def qkk (a b:EN):Prop:=a.id=b.id∧a.ph=b.ph∧a.qu=b.qu∧a.t=b.t∧a.bal=b.bal∧a.abal=b.abal∧a.seen=b.seen∧a.age=b.age∧a.pay=b.pay∧a.z=b.z
instance (a b:EN):Decidable (qkk a b):=by unfold qkk;infer_instance
theorem qxf (a:EN):qkk a a:=⟨rfl,rfl,rfl,rfl,rfl,rfl,rfl,rfl,rfl,rfl⟩
section
variable (a b:EN)
set_option maxHeartbeats 8000000 in
theorem qsg (w:World) (ha:RdE0 w a) (hb:RdE0 w b) (sa:a.z.size≤100000) (sb:b.z.size≤100000) :
 Calls Tryz.prog 149 #[.agg (encE a).toArray,.agg (encE b).toArray] w fun r w'=>r=.returned (.bool (decide (qkk a b)))∧Below w.heap.size w w':=by
 have HA:=hI (fun W (h:Below w.heap.size w W)=>qqc a.A b.A a.c b.c a.z b.z _ _ W (ha.below h).rd (hb.below h).rd (by omega) (by omega))
 have HB:Hid (∀ o1 o2,Below w.heap.size w ((w.alloc o1).alloc o2)):=hI (fun o1 o2=>qad (bel1 w o1) o2)
 have hsn:=@str_eq_E a.pay b.pay
 clear ha hb
 simp only [encE]
 go_enter Tryz.func149,Tryz.ntmps149
 go_wp2_with (go_at_call 178;refine (HA.out _ (HB.out _ _)).mono ?_;rintro _ w1 ⟨rfl,hb1⟩;have HB1:=hI (qac (HB.out _ _) hb1);clear hb1)
 all_goals
  go_ret
  refine ⟨qfo ?_,by first | exact HB1.out | exact HB.out _ _⟩
  simp only [qkk,decide_eq_true_eq] at *
  grind
end
def fewP (e:EN):Prop:=e.z.size≤100∧e.pay.size≤1000
instance (e:EN):Decidable (fewP e):=by unfold fewP;infer_instance
theorem few20_any (e:EN) (w:World):Calls Tryz.prog 118 #[.agg (encE e).toArray] w fun r w'=>r=.returned (.bool (decide (fewP e)))∧Below w.heap.size w w':=by
 have HB:Hid (∀ o1,Below w.heap.size w (w.alloc o1)):=hI (fun o1=>bel1 w o1)
 simp only [encE]
 go_enter Tryz.func118,Tryz.ntmps118
 go_wp2
 all_goals
  go_ret
  refine ⟨qfo ?_,HB.out _⟩
  simp only [fewP,decide_eq_true_eq] at *
  grind
end Go.Proofs.YtnmojicfmcbgmaaGreatDoor
namespace Go.Proofs.YtnmojicfmcbgmaaGreatDoor
open Go.RowKit Go.Sort Go.Lib
set_option maxRecDepth 100000
structure RdT0 (w:World) (A:Option Addr) (d:Array EN):Prop where
 rd:RdK encE 10 w.heap.size w A d
 el:∀ i,i < d.size→RdE0 w d[i]!
theorem RdT0.below {w w':World} {A:Option Addr} {d:Array EN} (h:RdT0 w A d) (hb:Below w.heap.size w w'):RdT0 w' A d:=⟨(h.rd.below hb).mono hb.size,fun i hi=>(h.el i hi).below hb⟩
structure RdT (w:World) (A:Option Addr) (d:Array EN):Prop where
 rd:RdK encE 10 w.heap.size w A d
 el:∀ i,i < d.size→RdE w d[i]!
 sz:d.size≤1000
theorem RdT.below {w w':World} {A:Option Addr} {d:Array EN} (h:RdT w A d) (hb:Below w.heap.size w w'):RdT w' A d:=⟨(h.rd.below hb).mono hb.size,fun i hi=>(h.el i hi).below hb,h.sz⟩
theorem RdE.zero {w:World} {e:EN} (h:RdE w e):RdE0 w e:=⟨h.rd,h.cz⟩
theorem RdT.zero {w:World} {A:Option Addr} {d:Array EN} (h:RdT w A d):RdT0 w A d:=⟨h.rd,fun i hi=>(h.el i hi).zero⟩
def fewT (d:Array EN):Bool:=decide (d.size≤60) && (List.range d.size).all fun i=>decide (fewP d[i]!)
theorem qfp {d:Array EN}:fewT d=true↔d.size≤60∧∀ i,i < d.size→fewP d[i]!:=by
 unfold fewT
 rw [Bool.and_eq_true,decide_eq_true_eq,List.all_eq_true]
 constructor
 ·rintro ⟨h,g⟩;exact ⟨h,fun i hi=>of_decide_eq_true (g i (List.mem_range.2 hi))⟩
 ·rintro ⟨h,g⟩;exact ⟨h,fun i hi=>decide_eq_true (g i (List.mem_range.1 hi))⟩
theorem fewT_no {d:Array EN} (i:Nat) (hi:i < d.size) (h:decide (fewP d[i]!)=false):fewT d=false:=by
 rw [Bool.eq_false_iff]
 intro hf
 have:=(qfp.1 hf).2 i hi
 rw [decide_eq_false_iff_not] at h
 exact h this
theorem RdT0.few {w:World} {A:Option Addr} {d:Array EN} (h:RdT0 w A d) (hf:fewT d=true):RdT w A d :=
 ⟨h.rd,fun i hi=>(h.el i hi).few ((qfp.1 hf).2 i hi).1 ((qfp.1 hf).2 i hi).2,by have:=(qfp.1 hf).1;omega⟩
set_option maxHeartbeats 4000000 in
theorem few21_any (A:Option Addr) (c:Nat) (d:Array EN) (w:World) (h:RdT0 w A d) :
 Calls Tryz.prog 56 #[.slice A d.size c] w fun e w'=>e=.returned (.bool (fewT d))∧Below w.heap.size w w':=by
 have HR:=hI h
 clear h
 by_cases hs:d.size≤60
 ·have hs':decide ((60:Int) < (d.size:Int))=false:=decide_eq_false (by omega)
  go_enter Tryz.func56,Tryz.ntmps56
  go_wp2
  go_loopw [3] (fun i wr=>∃ k:Nat,i=.int .i64 k∧k≤d.size∧Hid (∀ j,j < k→fewP d[j]!)∧Hid (Below w.heap.size w wr)) (fun i _=>d.size - (intOf i).toNat)
  case atStart=>exact ⟨0,rfl,Nat.zero_le _,hI (fun j hj=>absurd hj (by omega)),hI (Below.refl _ _)⟩
  case round =>
   obtain ⟨k,rfl,hk,hall,HB⟩:=hrel
   by_cases hlt:k < d.size
   ·have kz:(k:Int) < (d.size:Int):=by omega
    obtain ⟨b,off,rfl,hbl,f⟩:=(HR.out.below HB.out).rd.at_ (i:=k) (by omega)
    have e0:=f 0 (by omega)
    have e1:=f 1 (by omega)
    have e2:=f 2 (by omega)
    have e3:=f 3 (by omega)
    have e4:=f 4 (by omega)
    have e5:=f 5 (by omega)
    have e6:=f 6 (by omega)
    have e7:=f 7 (by omega)
    have e8:=f 8 (by omega)
    have e9:=f 9 (by omega)
    have HF:=hI (fun W=>few20_any d[k]! W)
    obtain ⟨g,hg⟩:∃ g,decide (fewP d[k]!)=g:=⟨_,rfl⟩
    rw [hg] at HF
    have HG:=hI hg
    clear hg
    generalize d[k]! = x at e0 e1 e2 e3 e4 e5 e6 e7 e8 e9 HF
    clear f
    simp only [Nat.add_zero,encE,List.getElem!_cons_zero,List.getElem!_cons_succ] at e0 e1 e2 e3 e4 e5 e6 e7 e8 e9 HF
    cases g
    ·go_wp2_with (go_at_call 118;refine (HF.out _).mono ?_;rintro e w' ⟨rfl,hb'⟩)
     go_ret
     exact ⟨qag (fewT_no k hlt HG.out).symm,qac HB.out hb'⟩
    ·go_wp2_with (go_at_call 118;refine (HF.out _).mono ?_;rintro e w' ⟨rfl,hb'⟩)
     go_roundw
     case rel =>
      refine ⟨k + 1,by go_num,by omega,hI (fun j hj=>?_),hI (qac HB.out hb')⟩
      rcases Nat.lt_or_ge j k with h | h
      ·exact hall.out j h
      ·obtain rfl:j=k:=by omega
       exact of_decide_eq_true HG.out
     case measure=>simp [intOf];omega
   ·have hlt':decide ((k:Int) < (d.size:Int))=false:=by simp;omega
    go_wp2
    go_ret
    exact ⟨qag (qfp.2 ⟨hs,fun i hi=>hall.out i (by omega)⟩).symm,HB.out⟩
 ·have hs':decide ((60:Int) < (d.size:Int))=true:=decide_eq_true (by omega)
  have HE:Hid (fewT d=false):=by
   show _=_
   rw [Bool.eq_false_iff]
   intro hf
   exact hs (qfp.1 hf).1
  clear hs
  go_enter Tryz.func56,Tryz.ntmps56
  go_wp2
  go_ret
  exact ⟨qag HE.out.symm,Below.refl _ _⟩
def atT (d:Array EN) (i:Nat):Bool:=qgc d[i]! && decide (0 < i→d[i - 1]!.id < d[i]!.id)
def chkT (d:Array EN):Bool:=decide (d.size≤40) && (List.range d.size).all fun i=>atT d i
def tabE (d:Array EN):Int:=if chkT d=true then 0 else 2
theorem qin {d:Array EN}:chkT d=true↔d.size≤40∧∀ i,i < d.size→atT d i=true:=by
 unfold chkT
 rw [Bool.and_eq_true,decide_eq_true_eq,List.all_eq_true]
 constructor
 ·rintro ⟨h,g⟩;exact ⟨h,fun i hi=>g i (List.mem_range.2 hi)⟩
 ·rintro ⟨h,g⟩;exact ⟨h,fun i hi=>g i (List.mem_range.1 hi)⟩
theorem qum {d:Array EN} (h:d.size≤40) (g:∀ i,i < d.size→atT d i=true):tabE d=0:=by
 unfold tabE;rw [if_pos (qin.2 ⟨h,g⟩)]
theorem qog {d:Array EN} (i:Nat) (hi:i < d.size) (h:atT d i=false):tabE d=2:=by
 unfold tabE
 rw [if_neg]
 intro hc
 rw [(qin.1 hc).2 i hi] at h
 cases h
theorem qun {d:Array EN} (h:¬ d.size≤40):tabE d=2:=by
 unfold tabE
 rw [if_neg]
 intro hc
 exact h (qin.1 hc).1
theorem quo (e:EN):(enE e != 0) = !qgc e:=by unfold enE;cases qgc e <;> rfl
theorem tabE_bool (d:Array EN):(tabE d != 0) = !chkT d:=by unfold tabE;cases chkT d <;> rfl
set_option maxHeartbeats 8000000 in
theorem qxg (A:Option Addr) (c:Nat) (d:Array EN) (w:World) (h:RdT w A d) :
 Calls Tryz.prog 157 #[.slice A d.size c] w fun e w'=>e=.returned (.int .i64 (tabE d))∧Below w.heap.size w w':=by
 have HR:=hI h
 clear h
 by_cases hs:d.size≤40
 ·have hs':decide ((40:Int) < (d.size:Int))=false:=decide_eq_false (by omega)
  go_enter Tryz.func157,Tryz.ntmps157
  go_wp2
  go_loopw [10] (fun i wr=>∃ k:Nat,i=.int .i64 k∧k≤d.size∧Hid (∀ j,j < k→atT d j=true)∧Hid (Below w.heap.size w wr)) (fun i _=>d.size - (intOf i).toNat)
  case atStart=>exact ⟨0,rfl,Nat.zero_le _,hI (fun j hj=>absurd hj (by omega)),hI (Below.refl _ _)⟩
  case round =>
   obtain ⟨k,rfl,hk,hall,HB⟩:=hrel
   by_cases hlt:k < d.size
   ·have kz:(k:Int) < (d.size:Int):=by omega
    obtain ⟨b,off,rfl,hbl,f⟩:=(HR.out.below HB.out).rd.at_ (i:=k) (by omega)
    have e0:=f 0 (by omega)
    have e1:=f 1 (by omega)
    have e2:=f 2 (by omega)
    have e3:=f 3 (by omega)
    have e4:=f 4 (by omega)
    have e5:=f 5 (by omega)
    have e6:=f 6 (by omega)
    have e7:=f 7 (by omega)
    have e8:=f 8 (by omega)
    have e9:=f 9 (by omega)
    have HC0:=hI (fun W (hbw:Below wr.heap.size wr W)=>qxc d[k]! W ((HR.out.below (qac HB.out hbw)).el k hlt) ((HR.out.below (qac HB.out hbw)).el k hlt).cz)
    have hg:=quo d[k]!
    have HPV:Hid (0 < k→wr.cell? ⟨b,off + (k - 1) * 10,none⟩=some (.int .i64 d[k - 1]!.id)):=fun h0=>by
     obtain ⟨b2,off2,e2,_,f2⟩:=(HR.out.below HB.out).rd.at_ (i:=k - 1) (by omega)
     injection e2 with e2
     injection e2 with eb eo
     subst eb eo
     have:=f2 0 (by omega)
     simp only [encE,Nat.add_zero,List.getElem!_cons_zero] at this
     exact this
    have HAT:Hid (atT d k=(qgc d[k]! && decide (0 < k→d[k - 1]!.id < d[k]!.id))):=rfl
    generalize d[k - 1]!.id=pid at HPV HAT
    obtain ⟨x,hx⟩:∃ x,d[k]! = x:=⟨_,rfl⟩
    rw [hx] at e0 e1 e2 e3 e4 e5 e6 e7 e8 e9 HC0 hg HAT
    clear f hx
    obtain ⟨g,hgx⟩:∃ g,qgc x=g:=⟨_,rfl⟩
    rw [hgx] at hg HAT
    clear hgx
    simp only [Nat.add_zero,encE,List.getElem!_cons_zero,List.getElem!_cons_succ] at e0 e1 e2 e3 e4 e5 e6 e7 e8 e9 HC0
    generalize enE x=en at hg HC0
    have HX:=hI (BoxW.init wr #[.int .i64 x.id,.int .i64 x.ph,.int .i64 x.qu,.int .i64 x.t,.int .i64 x.bal,.int .i64 x.abal,.int .i64 x.seen,.int .i64 x.age,.string x.pay,.slice x.A x.z.size x.c] 132)
    go_wp2_with fail
    have hl0:b < (wr.alloc (.cells #[.int .i64 x.id,.int .i64 x.ph,.int .i64 x.qu,.int .i64 x.t,.int .i64 x.bal,.int .i64 x.abal,.int .i64 x.seen,.int .i64 x.age,.string x.pay,.slice x.A x.z.size x.c] 132)).heap.size:=by simp;omega
    have HPV1:Hid (0 < k→(wr.alloc (.cells #[.int .i64 x.id,.int .i64 x.ph,.int .i64 x.qu,.int .i64 x.t,.int .i64 x.bal,.int .i64 x.abal,.int .i64 x.seen,.int .i64 x.age,.string x.pay,.slice x.A x.z.size x.c] 132)).cell? ⟨b,off + (k - 1) * 10,none⟩=some (.int .i64 pid)):=fun h0=>(World.cell?_alloc_lt wr _ _ hbl).trans (HPV.out h0)
    have HPV:=HPV1
    clear HPV1 e0 e1 e2 e3 e4 e5 e6 e7 e8 e9
    have HW1:=hI (bel1 wr (.cells #[.int .i64 x.id,.int .i64 x.ph,.int .i64 x.qu,.int .i64 x.t,.int .i64 x.bal,.int .i64 x.abal,.int .i64 x.seen,.int .i64 x.age,.string x.pay,.slice x.A x.z.size x.c] 132))
    have HBX:=hI (qad HB.out (.cells #[.int .i64 x.id,.int .i64 x.ph,.int .i64 x.qu,.int .i64 x.t,.int .i64 x.bal,.int .i64 x.abal,.int .i64 x.seen,.int .i64 x.age,.string x.pay,.slice x.A x.z.size x.c] 132))
    generalize wr.alloc (.cells #[.int .i64 x.id,.int .i64 x.ph,.int .i64 x.qu,.int .i64 x.t,.int .i64 x.bal,.int .i64 x.abal,.int .i64 x.seen,.int .i64 x.age,.string x.pay,.slice x.A x.z.size x.c] 132)=w1 at HX HBX HPV HW1 hl0 ⊢
    have HC:=hI (fun p:ExtW w1=>HC0.out p.to (qac HW1.out p.h))
    clear HC0
    have b0:=fun p:ExtW w1=>p.cell (a:=⟨wr.heap.size,0,none⟩) HX.out.lt (HX.out.at_ 0)
    have b1:=fun p:ExtW w1=>p.cell (a:=⟨wr.heap.size,1,none⟩) HX.out.lt (HX.out.at_ 1)
    have b2:=fun p:ExtW w1=>p.cell (a:=⟨wr.heap.size,2,none⟩) HX.out.lt (HX.out.at_ 2)
    have b3:=fun p:ExtW w1=>p.cell (a:=⟨wr.heap.size,3,none⟩) HX.out.lt (HX.out.at_ 3)
    have b4:=fun p:ExtW w1=>p.cell (a:=⟨wr.heap.size,4,none⟩) HX.out.lt (HX.out.at_ 4)
    have b5:=fun p:ExtW w1=>p.cell (a:=⟨wr.heap.size,5,none⟩) HX.out.lt (HX.out.at_ 5)
    have b6:=fun p:ExtW w1=>p.cell (a:=⟨wr.heap.size,6,none⟩) HX.out.lt (HX.out.at_ 6)
    have b7:=fun p:ExtW w1=>p.cell (a:=⟨wr.heap.size,7,none⟩) HX.out.lt (HX.out.at_ 7)
    have b8:=fun p:ExtW w1=>p.cell (a:=⟨wr.heap.size,8,none⟩) HX.out.lt (HX.out.at_ 8)
    have b9:=fun p:ExtW w1=>p.cell (a:=⟨wr.heap.size,9,none⟩) HX.out.lt (HX.out.at_ 9)
    cases g
    ·have HF:Hid (tabE d=2):=qog k hlt (by rw [HAT.out];rfl)
     have hg':(en != 0)=true:=hg
     clear hg HPV
     refine qae (by kernel_rfl) (by kernel_rfl) ?_
     repeat (first | go_big_quiet_step ((go_at_call 180;exact Calls.ext_of (HC.out _))) | quiet_step (fail))
     refine wpQuiet_nil ?_
     intro w' hw'
     obtain ⟨⟨W,hbW⟩,hw''⟩:=hw'
     have hw3:w'=W:=hw''
     subst hw3
     have HW:=hI (qac HBX.out hbW)
     clear hbW hw'' b0 b1 b2 b3 b4 b5 b6 b7 b8 b9
     go_wp2
     go_ret
     exact ⟨qaf HF.out.symm,HW.out⟩
    ·have hg':(en != 0)=false:=hg
     clear hg
     by_cases h0:0 < k
     ·have h0':decide ((0:Int) < (k:Int))=true:=decide_eq_true (by omega)
      obtain ⟨k',hk'⟩:∃ k',k' + 1=k:=⟨k - 1,by omega⟩
      have hsub:(k:Int) - 1=(k':Int):=by omega
      have kz':(k':Int) < (d.size:Int):=by omega
      have pv:=HPV.out h0
      rw [show k - 1=k' by omega] at pv
      have pb:=fun p:ExtW w1=>p.cell (a:=⟨b,off + k' * 10,none⟩) hl0 pv
      clear pv HPV
      by_cases hle:x.id≤pid
      ·have hle':decide (x.id≤pid)=true:=decide_eq_true hle
       have HF:Hid (tabE d=2):=qog k hlt (by rw [HAT.out,Bool.true_and,decide_eq_false_iff_not];intro h;have:=h h0;omega)
       clear hle hk'
       refine qae (by kernel_rfl) (by kernel_rfl) ?_
       repeat (first | go_big_quiet_step ((go_at_call 180;exact Calls.ext_of (HC.out _))) | quiet_step (fail))
       refine wpQuiet_nil ?_
       intro w' hw'
       obtain ⟨⟨W,hbW⟩,hw''⟩:=hw'
       have hw3:w'=W:=hw''
       subst hw3
       have HW:=hI (qac HBX.out hbW)
       clear hbW hw'' b0 b1 b2 b3 b4 b5 b6 b7 b8 b9
       go_wp2
       go_ret
       exact ⟨qaf HF.out.symm,HW.out⟩
      ·have hle':decide (x.id≤pid)=false:=decide_eq_false hle
       have HT:Hid (atT d k=true):=by show _=_;rw [HAT.out,Bool.true_and,decide_eq_true_eq];intro _;omega
       clear hle hk'
       refine qae (by kernel_rfl) (by kernel_rfl) ?_
       repeat (first | go_big_quiet_step ((go_at_call 180;exact Calls.ext_of (HC.out _))) | quiet_step (fail))
       refine wpQuiet_nil ?_
       intro w' hw'
       obtain ⟨⟨W,hbW⟩,hw''⟩:=hw'
       have hw3:w'=W:=hw''
       subst hw3
       have HW:=hI (qac HBX.out hbW)
       clear hbW hw'' b0 b1 b2 b3 b4 b5 b6 b7 b8 b9
       go_wp2
       go_roundw
       case rel =>
        refine ⟨k + 1,by go_num,by omega,hI (fun j hj=>?_),HW⟩
        rcases Nat.lt_or_ge j k with h | h
        ·exact hall.out j h
        ·obtain rfl:j=k:=by omega
         exact HT.out
       case measure=>simp [intOf];omega
     ·have h0':decide ((0:Int) < (k:Int))=false:=decide_eq_false (by omega)
      have HT:Hid (atT d k=true):=by show _=_;rw [HAT.out,Bool.true_and,decide_eq_true_eq];intro h;exact absurd h h0
      clear HPV
      refine qae (by kernel_rfl) (by kernel_rfl) ?_
      repeat (first | go_big_quiet_step ((go_at_call 180;exact Calls.ext_of (HC.out _))) | quiet_step (fail))
      refine wpQuiet_nil ?_
      intro w' hw'
      obtain ⟨⟨W,hbW⟩,hw''⟩:=hw'
      have hw3:w'=W:=hw''
      subst hw3
      have HW:=hI (qac HBX.out hbW)
      clear hbW hw'' b0 b1 b2 b3 b4 b5 b6 b7 b8 b9
      go_wp2
      go_roundw
      case rel =>
       refine ⟨k + 1,by go_num,by omega,hI (fun j hj=>?_),HW⟩
       rcases Nat.lt_or_ge j k with h | h
       ·exact hall.out j h
       ·obtain rfl:j=k:=by omega
        exact HT.out
      case measure=>simp [intOf];omega
   ·have hlt':decide ((k:Int) < (d.size:Int))=false:=by simp;omega
    go_wp2
    go_ret
    exact ⟨qaf (qum hs fun i hi=>hall.out i (by omega)).symm,HB.out⟩
 ·have hs':decide ((40:Int) < (d.size:Int))=true:=decide_eq_true (by omega)
  have HE:Hid (tabE d=2):=qun hs
  clear hs
  go_enter Tryz.func157,Tryz.ntmps157
  go_wp2
  go_ret
  exact ⟨qaf HE.out.symm,Below.refl _ _⟩
set_option maxHeartbeats 8000000 in
theorem qsh (A:Option Addr) (c:Nat) (d:Array EN) (w:World) (h:RdT w A d) :
 Calls Tryz.prog 124 #[.slice A d.size c] w fun e w'=>e=.returned (.int .i64 (tabE d))∧Below w.heap.size w w':=by
 have HR:=hI h
 clear h
 by_cases hs:d.size≤40
 ·have hs':decide ((40:Int) < (d.size:Int))=false:=decide_eq_false (by omega)
  go_enter Tryz.func124,Tryz.ntmps124
  go_wp2
  go_loopw [3] (fun i wr=>∃ k:Nat,i=.int .i64 k∧k≤d.size∧Hid (∀ j,j < k→atT d j=true)∧Hid (Below w.heap.size w wr)) (fun i _=>d.size - (intOf i).toNat)
  case atStart=>exact ⟨0,rfl,Nat.zero_le _,hI (fun j hj=>absurd hj (by omega)),hI (Below.refl _ _)⟩
  case round =>
   obtain ⟨k,rfl,hk,hall,HB⟩:=hrel
   by_cases hlt:k < d.size
   ·have kz:(k:Int) < (d.size:Int):=by omega
    obtain ⟨b,off,rfl,hbl,f⟩:=(HR.out.below HB.out).rd.at_ (i:=k) (by omega)
    have e0:=f 0 (by omega)
    have e1:=f 1 (by omega)
    have e2:=f 2 (by omega)
    have e3:=f 3 (by omega)
    have e4:=f 4 (by omega)
    have e5:=f 5 (by omega)
    have e6:=f 6 (by omega)
    have e7:=f 7 (by omega)
    have e8:=f 8 (by omega)
    have e9:=f 9 (by omega)
    have HC0:=hI (fun W (hbw:Below wr.heap.size wr W)=>qxe d[k]! W ((HR.out.below (qac HB.out hbw)).el k hlt) ((HR.out.below (qac HB.out hbw)).el k hlt).cz)
    have hg:=quo d[k]!
    have HPV:Hid (0 < k→wr.cell? ⟨b,off + (k - 1) * 10,none⟩=some (.int .i64 d[k - 1]!.id)):=fun h0=>by
     obtain ⟨b2,off2,e2,_,f2⟩:=(HR.out.below HB.out).rd.at_ (i:=k - 1) (by omega)
     injection e2 with e2
     injection e2 with eb eo
     subst eb eo
     have:=f2 0 (by omega)
     simp only [encE,Nat.add_zero,List.getElem!_cons_zero] at this
     exact this
    have HAT:Hid (atT d k=(qgc d[k]! && decide (0 < k→d[k - 1]!.id < d[k]!.id))):=rfl
    generalize d[k - 1]!.id=pid at HPV HAT
    obtain ⟨x,hx⟩:∃ x,d[k]! = x:=⟨_,rfl⟩
    rw [hx] at e0 e1 e2 e3 e4 e5 e6 e7 e8 e9 HC0 hg HAT
    clear f hx
    obtain ⟨g,hgx⟩:∃ g,qgc x=g:=⟨_,rfl⟩
    rw [hgx] at hg HAT
    clear hgx
    simp only [Nat.add_zero,encE,List.getElem!_cons_zero,List.getElem!_cons_succ] at e0 e1 e2 e3 e4 e5 e6 e7 e8 e9 HC0
    generalize enE x=en at hg HC0
    have hl0:=hbl
    have HBX:=HB
    have HC:=hI (fun p:ExtW wr=>HC0.out p.to p.h)
    clear HC0
    have b0:=fun p:ExtW wr=>p.cell (a:=⟨b,off + k * 10,none⟩) hbl e0
    have b1:=fun p:ExtW wr=>p.cell (a:=⟨b,off + k * 10 + 1,none⟩) hbl e1
    have b2:=fun p:ExtW wr=>p.cell (a:=⟨b,off + k * 10 + 2,none⟩) hbl e2
    have b3:=fun p:ExtW wr=>p.cell (a:=⟨b,off + k * 10 + 3,none⟩) hbl e3
    have b4:=fun p:ExtW wr=>p.cell (a:=⟨b,off + k * 10 + 4,none⟩) hbl e4
    have b5:=fun p:ExtW wr=>p.cell (a:=⟨b,off + k * 10 + 5,none⟩) hbl e5
    have b6:=fun p:ExtW wr=>p.cell (a:=⟨b,off + k * 10 + 6,none⟩) hbl e6
    have b7:=fun p:ExtW wr=>p.cell (a:=⟨b,off + k * 10 + 7,none⟩) hbl e7
    have b8:=fun p:ExtW wr=>p.cell (a:=⟨b,off + k * 10 + 8,none⟩) hbl e8
    have b9:=fun p:ExtW wr=>p.cell (a:=⟨b,off + k * 10 + 9,none⟩) hbl e9
    clear e0 e1 e2 e3 e4 e5 e6 e7 e8 e9
    cases g
    ·have HF:Hid (tabE d=2):=qog k hlt (by rw [HAT.out];rfl)
     have hg':(en != 0)=true:=hg
     clear hg HPV
     go_wp2_with fail
     refine qae (by kernel_rfl) (by kernel_rfl) ?_
     repeat (first | go_big_quiet_step ((go_at_call 173;exact Calls.ext_of (HC.out _))) | quiet_step (fail))
     refine wpQuiet_nil ?_
     intro w' hw'
     obtain ⟨⟨W,hbW⟩,hw''⟩:=hw'
     have hw3:w'=W:=hw''
     subst hw3
     have HW:=hI (qac HBX.out hbW)
     clear hbW hw'' b0 b1 b2 b3 b4 b5 b6 b7 b8 b9
     go_wp2
     go_ret
     exact ⟨qaf HF.out.symm,HW.out⟩
    ·have hg':(en != 0)=false:=hg
     clear hg
     by_cases h0:0 < k
     ·have h0':decide ((0:Int) < (k:Int))=true:=decide_eq_true (by omega)
      obtain ⟨k',hk'⟩:∃ k',k' + 1=k:=⟨k - 1,by omega⟩
      have hsub:(k:Int) - 1=(k':Int):=by omega
      have kz':(k':Int) < (d.size:Int):=by omega
      have pv:=HPV.out h0
      rw [show k - 1=k' by omega] at pv
      have pb:=fun p:ExtW wr=>p.cell (a:=⟨b,off + k' * 10,none⟩) hl0 pv
      clear pv HPV
      by_cases hle:x.id≤pid
      ·have hle':decide (x.id≤pid)=true:=decide_eq_true hle
       have HF:Hid (tabE d=2):=qog k hlt (by rw [HAT.out,Bool.true_and,decide_eq_false_iff_not];intro h;have:=h h0;omega)
       clear hle hk'
       go_wp2_with fail
       refine qae (by kernel_rfl) (by kernel_rfl) ?_
       repeat (first | go_big_quiet_step ((go_at_call 173;exact Calls.ext_of (HC.out _))) | quiet_step (fail))
       refine wpQuiet_nil ?_
       intro w' hw'
       obtain ⟨⟨W,hbW⟩,hw''⟩:=hw'
       have hw3:w'=W:=hw''
       subst hw3
       have HW:=hI (qac HBX.out hbW)
       clear hbW hw'' b0 b1 b2 b3 b4 b5 b6 b7 b8 b9
       go_wp2
       go_ret
       exact ⟨qaf HF.out.symm,HW.out⟩
      ·have hle':decide (x.id≤pid)=false:=decide_eq_false hle
       have HT:Hid (atT d k=true):=by show _=_;rw [HAT.out,Bool.true_and,decide_eq_true_eq];intro _;omega
       clear hle hk'
       go_wp2_with fail
       refine qae (by kernel_rfl) (by kernel_rfl) ?_
       repeat (first | go_big_quiet_step ((go_at_call 173;exact Calls.ext_of (HC.out _))) | quiet_step (fail))
       refine wpQuiet_nil ?_
       intro w' hw'
       obtain ⟨⟨W,hbW⟩,hw''⟩:=hw'
       have hw3:w'=W:=hw''
       subst hw3
       have HW:=hI (qac HBX.out hbW)
       clear hbW hw'' b0 b1 b2 b3 b4 b5 b6 b7 b8 b9
       go_wp2
       go_roundw
       case rel =>
        refine ⟨k + 1,by go_num,by omega,hI (fun j hj=>?_),HW⟩
        rcases Nat.lt_or_ge j k with h | h
        ·exact hall.out j h
        ·obtain rfl:j=k:=by omega
         exact HT.out
       case measure=>simp [intOf];omega
     ·have h0':decide ((0:Int) < (k:Int))=false:=decide_eq_false (by omega)
      have HT:Hid (atT d k=true):=by show _=_;rw [HAT.out,Bool.true_and,decide_eq_true_eq];intro h;exact absurd h h0
      clear HPV
      go_wp2_with fail
      refine qae (by kernel_rfl) (by kernel_rfl) ?_
      repeat (first | go_big_quiet_step ((go_at_call 173;exact Calls.ext_of (HC.out _))) | quiet_step (fail))
      refine wpQuiet_nil ?_
      intro w' hw'
      obtain ⟨⟨W,hbW⟩,hw''⟩:=hw'
      have hw3:w'=W:=hw''
      subst hw3
      have HW:=hI (qac HBX.out hbW)
      clear hbW hw'' b0 b1 b2 b3 b4 b5 b6 b7 b8 b9
      go_wp2
      go_roundw
      case rel =>
       refine ⟨k + 1,by go_num,by omega,hI (fun j hj=>?_),HW⟩
       rcases Nat.lt_or_ge j k with h | h
       ·exact hall.out j h
       ·obtain rfl:j=k:=by omega
        exact HT.out
      case measure=>simp [intOf];omega
   ·have hlt':decide ((k:Int) < (d.size:Int))=false:=by simp;omega
    go_wp2
    go_ret
    exact ⟨qaf (qum hs fun i hi=>hall.out i (by omega)).symm,HB.out⟩
 ·have hs':decide ((40:Int) < (d.size:Int))=true:=decide_eq_true (by omega)
  have HE:Hid (tabE d=2):=qun hs
  clear hs
  go_enter Tryz.func124,Tryz.ntmps124
  go_wp2
  go_ret
  exact ⟨qaf HE.out.symm,Below.refl _ _⟩
end Go.Proofs.YtnmojicfmcbgmaaGreatDoor
