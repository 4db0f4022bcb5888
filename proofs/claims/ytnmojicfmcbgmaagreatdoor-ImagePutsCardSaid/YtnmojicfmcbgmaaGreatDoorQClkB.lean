/- Texts that the law leans on. -/
import Derived.Test.YtnmojicfmcbgmaaGreatDoorQOwnK
import Derived.Test.YtnmojicfmcbgmaaGreatDoorQIdentB
namespace Go.Proofs.YtnmojicfmcbgmaaGreatDoor
open Go.RowKit Go.Sort Go.Lib Go.Maps
set_option maxRecDepth 100000
theorem law_int:Keyed Tryz.prog 3:=int_keyed Tryz.underlying3
theorem zero_bool (w:World):(zeroValue 4).run Tryz.prog w=.ok (.bool false) w:=by kernel_rfl
theorem qim (id:Int):(qez id != 0) = !decide (10≤id∧id≤999999∧id % 10≠0):=by
 unfold qez
 by_cases h:id < 10∨999999 < id∨id % 10=0
 ·rw [if_pos h,decide_eq_false (by omega)];rfl
 ·rw [if_neg h,decide_eq_true (by omega)];rfl
theorem wf_id {id:Int} (h:10≤id∧id≤999999∧id % 10≠0):(Lit.int .i64 id).wf=true:=by
 have a:(-9223372036854775808:Int)≤id:=by omega
 have b:id≤9223372036854775807:=by omega
 simp [Lit.wf,IntKind.min,IntKind.max,IntKind.signed,IntKind.bits]
 omega
set_option maxHeartbeats 8000000 in
theorem clk_any (now floor:Int) (A:Option Addr) (c:Nat) (d:Array (Int×Int)) (w:World) (h:RdK qbe 2 w.heap.size w A d) (hs:d.size≤1000000) :
 Calls Tryz.prog 154 #[.int .i64 now,.int .i64 floor,.slice A d.size c] w fun e w'=>e=.returned (.int .i64 (clkE now floor d))∧Below w.heap.size w w':=by
 have HR:=hI h
 clear h
 have hmm:=@run_makeMap Tryz.prog
 by_cases g:0≤floor∧floor≤now∧now≤1000000
 ·have q1:decide (floor < 0)=false:=by simp;omega
  have q2:decide (now < floor)=false:=by simp;omega
  have q3:decide ((1000000:Int) < now)=false:=by simp;omega
  have HG:=hI g
  clear g
  go_enter Tryz.func154,Tryz.ntmps154
  go_wp2
  go_loopw [7,26] (fun la i wr=>∃ k:Nat,i=.int .i64 k∧k≤d.size∧la=.int .i64 (qgf floor d k)∧Hid (∀ j,j < k→qhs now floor d j=true)∧Hid (Below w.heap.size w wr)∧Hid (wr.ownsMap Tryz.prog 3 (plainElem (H:=Unit) Tryz.prog 4) w.heap.size k (qyr (idsU d k)))) (fun _ i _=>d.size - (intOf i).toNat)
  case atStart=>exact ⟨0,rfl,Nat.zero_le _,rfl,hI (fun j hj=>absurd hj (by omega)),hI (bel1 w _),hI (World.ownsMap_made _ _ _ _)⟩
  case round =>
   obtain ⟨k,rfl,hk,rfl,hall,HB,HM⟩:=hrel
   by_cases hlt:k < d.size
   ·have kz:(k:Int) < (d.size:Int):=by omega
    obtain ⟨b,off,rfl,hbl,f⟩:=(HR.out.below HB.out).at_ (i:=k) (by omega)
    have e0:=f 0 (by omega)
    have e1:=f 1 (by omega)
    have HAT:=hI (qvw hlt hall.out)
    have HNX:Hid (idsU d (k + 1)=idsU d k ++ [d[k]!.2]):=idsU_succ hlt
    have HLA:Hid (qgf floor d (k + 1)=d[k]!.1):=by show qgf floor d (k + 1)=_;unfold qgf;rw [if_neg (by omega)];rfl
    have HNO:=hI (fun e:qhs now floor d k=false=>clkE_no k hlt e)
    obtain ⟨x,hx⟩:∃ x,d[k]! = x:=⟨_,rfl⟩
    rw [hx] at e0 e1 HAT HNX HLA
    clear f hx
    obtain ⟨t,id⟩:=x
    simp only [Nat.add_zero,qbe,List.getElem!_cons_zero,List.getElem!_cons_succ] at e0 e1 HAT HNX HLA
    have hck:=qim id
    by_cases hv:10≤id∧id≤999999∧id % 10≠0
    ·rw [decide_eq_true hv] at hck
     have hkey:keyOf Tryz.prog 3 (.int .i64 id)=some (.int .i64 id):=keyOf_int_mk Tryz.underlying3 (wf_id hv)
     obtain ⟨bx,hlk,hat⟩:=qmc (HM.out.alloc (.cells #[.int .i64 t,.int .i64 id] 29)) law_int Tryz.underlying276 Tryz.underlying4 (zero_bool _) hkey
     rw [seen_at _ _ (wf_id hv)] at hat
     have hbx:(idsU d k).contains id=bx:=by simpa using hat
     rw [decide_eq_true hv,hbx] at HAT
     clear hat hbx hv
     go_wp2_with (first
      | (go_at_call 167;refine (qdj _ _).mono ?_;rintro _ _ ⟨rfl,rfl⟩)
      | (at_mapUpdate;refine wpList_mapUpdate_own _ rfl _ _ _ 276 rfl 3 4 law_int Tryz.underlying276 (plainElem (H:=Unit) Tryz.prog 4) w.heap.size k _ rfl (HM.out.alloc _) (by unfold maxLen;omega) _ _ _ rfl rfl hkey _ [] (plainElem_bool Tryz.underlying4 true) ?_;intro w1 hown1 hgrow1;have HO1:=hI hown1;have HGR:=hI hgrow1;clear hown1 hgrow1))
     all_goals first
      | (go_ret
         refine ⟨qaf (HNO.out ?_).symm,qad HB.out _⟩
         rw [HAT.out]
         grind)
      | (go_roundw
         case rel =>
          refine ⟨k + 1,by go_num,by omega,by rw [HLA.out],hI (fun j hj=>?_),hI ?_,hI ?_⟩
          ·rcases Nat.lt_or_ge j k with h | h
           ·exact hall.out j h
           ·obtain rfl:j=k:=by omega
            rw [HAT.out]
            grind
          ·exact (qad HB.out _).grown HGR.out (by have:=HB.out.size;simp;omega) (fun j hj=>by cases hj;exact Nat.le_refl _)
          ·rw [HNX.out,seen_snoc];exact HO1.out
         case measure=>simp [intOf];omega)
    ·rw [decide_eq_false hv] at hck HAT
     clear hv
     go_wp2_with (go_at_call 167;refine (qdj _ _).mono ?_;rintro _ _ ⟨rfl,rfl⟩)
     all_goals
      go_ret
      refine ⟨qaf (HNO.out ?_).symm,qad HB.out _⟩
      rw [HAT.out]
      grind
   ·have hlt':decide ((k:Int) < (d.size:Int))=false:=by simp;omega
    go_wp2
    go_ret
    exact ⟨qaf (qvu HG.out fun i hi=>hall.out i (by omega)).symm,HB.out⟩
 ·have HE:=hI (qvv (d:=d) g)
  rcases (show floor < 0∨(¬ floor < 0∧now < floor)∨(¬ floor < 0∧¬ now < floor∧1000000 < now) by omega) with g1 | ⟨g1,g2⟩ | ⟨g1,g2,g3⟩
  all_goals clear g
  go_enter Tryz.func154,Tryz.ntmps154
  go_wp2
  all_goals first
   | (go_ret;exact ⟨qaf HE.out.symm,Below.refl _ _⟩)
end Go.Proofs.YtnmojicfmcbgmaaGreatDoor
namespace Go.Proofs.YtnmojicfmcbgmaaGreatDoor
open Go.RowKit Go.Sort Go.Lib
set_option maxRecDepth 100000
theorem qqa (id:Int):(qbf id == 0) = !decide (10≤id∧id≤999999∧id % 10≠0):=by
 unfold qbf
 by_cases h:id < 10∨999999 < id∨id % 10=0
 ·rw [if_pos h,decide_eq_false (by omega)];rfl
 ·rw [if_neg h,decide_eq_true (by omega)];simp;omega
set_option maxHeartbeats 16000000 in
theorem rClk_any (now floor:Int) (A:Option Addr) (c:Nat) (d:Array (Int×Int)) (w:World) (h:RdK qbe 2 w.heap.size w A d) (hs:d.size≤1000000) :
 Calls Tryz.prog 123 #[.int .i64 now,.int .i64 floor,.slice A d.size c] w fun e w'=>e=.returned (.int .i64 (clkE now floor d))∧Below w.heap.size w w':=by
 have HR:=hI h
 clear h
 by_cases g:0≤floor∧floor≤now∧now≤1000000
 ·have p1:decide (floor < 0)=false:=by simp;omega
  have p2:decide (now < floor)=false:=by simp;omega
  have p3:decide ((1000000:Int) < now)=false:=by simp;omega
  have HG:=hI g
  clear g
  go_enter Tryz.func123,Tryz.ntmps123
  go_wp2
  go_loopw [7] (fun i wr=>∃ n:Nat,i=.int .i64 n∧n≤d.size∧Hid (∀ j,j < n→qhs now floor d j=true)∧Hid (Below w.heap.size w wr)) (fun i _=>d.size - (intOf i).toNat)
  case atStart=>exact ⟨0,rfl,Nat.zero_le _,hI (fun j hj=>absurd hj (by omega)),hI (Below.refl _ _)⟩
  case round =>
   obtain ⟨n,rfl,hn,hall,HB⟩:=hrel
   by_cases hlt:n < d.size
   ·have nz:(n:Int) < (d.size:Int):=by omega
    obtain ⟨b,off,rfl,hbl,f⟩:=(HR.out.below HB.out).at_ (i:=n) (by omega)
    have e0:=f 0 (by omega)
    have e1:=f 1 (by omega)
    have HAT:=hI (qvw hlt hall.out)
    have HNO:=hI (fun e:qhs now floor d n=false=>clkE_no n hlt e)
    have HLT:Hid ((n=0→qgf floor d n=floor)∧(0 < n→qgf floor d n=d[n - 1]!.1∧floor < qgf floor d n)):=by
     refine ⟨fun h=>by unfold qgf;rw [if_pos h],fun h=>?_⟩
     have hp:=hall.out (n - 1) (by omega)
     unfold qhs at hp
     simp only [Bool.and_eq_true,decide_eq_true_eq] at hp
     unfold qgf
     rw [if_neg (by omega)]
     exact ⟨rfl,hp.1.1.1⟩
    have hbw:b < wr.heap.size:=Nat.lt_of_lt_of_le hbl HB.out.size
    obtain ⟨x,hx⟩:∃ x,d[n]! = x:=⟨_,rfl⟩
    rw [hx] at e0 e1 HAT
    clear f hx
    simp only [Nat.add_zero,qbe,List.getElem!_cons_zero,List.getElem!_cons_succ] at e0 e1
    have q0:=fun p:ExtW wr=>p.cell (a:=⟨b,off + n * 2,none⟩) hbw e0
    have HSP:=hI (fun W=>qen x.2 W)
    have z0:=qqa x.2
    by_cases hid:10≤x.2∧x.2≤999999∧x.2 % 10≠0
    ·rw [decide_eq_true hid] at z0 HAT
     clear hid
     by_cases g1:x.1≤floor
     ·have g1':decide (x.1≤floor)=true:=by simp;omega
      have HF:Hid (clkE now floor d=2):=HNO.out (by
       rw [HAT.out]
       rcases Nat.eq_zero_or_pos n with h | h
       ·have:=HLT.out.1 h;rw [decide_eq_false (by omega)];rfl
       ·have:=HLT.out.2 h;rw [decide_eq_false (by omega)];rfl)
      clear g1
      generalize qbf x.2=sf at z0 HSP
      go_wp2_with (go_at_call 127;refine (HSP.out _).mono ?_;rintro e w' ⟨rfl,rfl⟩)
      refine qae (by kernel_rfl) (by kernel_rfl) ?_
      repeat (first | go_big_quiet_step (fail) | quiet_step (fail))
      refine wpQuiet_nil ?_
      intro w' hw'
      obtain ⟨⟨W,hbW⟩,hw''⟩:=hw'
      have hw3:w'=W:=hw''
      subst hw3
      have HBW:=hI (qac HB.out hbW)
      clear hbW hw''
      go_wp2
      go_ret
      exact ⟨qaf HF.out.symm,HBW.out⟩
     ·have g1':decide (x.1≤floor)=false:=by simp;omega
      by_cases g2:now < x.1
      ·have g2':decide (now < x.1)=true:=by simp;omega
       have HF:Hid (clkE now floor d=2):=HNO.out (by rw [HAT.out,decide_eq_false (by omega)];rfl)
       clear g1 g2
       generalize qbf x.2=sf at z0 HSP
       go_wp2_with (go_at_call 127;refine (HSP.out _).mono ?_;rintro e w' ⟨rfl,rfl⟩)
       refine qae (by kernel_rfl) (by kernel_rfl) ?_
       repeat (first | go_big_quiet_step (fail) | quiet_step (fail))
       refine wpQuiet_nil ?_
       intro w' hw'
       obtain ⟨⟨W,hbW⟩,hw''⟩:=hw'
       have hw3:w'=W:=hw''
       subst hw3
       have HBW:=hI (qac HB.out hbW)
       clear hbW hw''
       go_wp2
       go_ret
       exact ⟨qaf HF.out.symm,HBW.out⟩
      ·have g2':decide (now < x.1)=false:=by simp;omega
       by_cases g0:0 < n
       ·obtain ⟨n',hn'⟩:∃ n',n' + 1=n:=⟨n - 1,by omega⟩
        have g0':decide ((0:Int) < (n:Int))=true:=by simp;omega
        have hsub:(n:Int) - 1=(n':Int):=by omega
        have nz':(n':Int) < (d.size:Int):=by omega
        obtain ⟨b',off',e',hbl',f'⟩:=(HR.out.below HB.out).at_ (i:=n') (by omega)
        injection e' with e'
        injection e' with eb eo
        subst eb eo
        have u0:=f' 0 (by omega)
        have hlast:=(HLT.out.2 g0).1
        rw [show n - 1=n' by omega] at hlast
        simp only [Nat.add_zero,qbe,List.getElem!_cons_zero] at u0
        rw [←hlast] at u0
        have q2:=fun p:ExtW wr=>p.cell (a:=⟨b,off + n' * 2,none⟩) hbw u0
        clear f' u0 hlast
        by_cases g3:x.1≤qgf floor d n
        ·have g3':decide (x.1≤qgf floor d n)=true:=by simp;omega
         have HF:Hid (clkE now floor d=2):=HNO.out (by rw [HAT.out,decide_eq_false (by omega)];rfl)
         generalize qgf floor d n=last at *
         clear g1 g2 g3 hn'
         generalize qbf x.2=sf at z0 HSP
         go_wp2_with (go_at_call 127;refine (HSP.out _).mono ?_;rintro e w' ⟨rfl,rfl⟩)
         refine qae (by kernel_rfl) (by kernel_rfl) ?_
         repeat (first | go_big_quiet_step (fail) | quiet_step (fail))
         refine wpQuiet_nil ?_
         intro w' hw'
         obtain ⟨⟨W,hbW⟩,hw''⟩:=hw'
         have hw3:w'=W:=hw''
         subst hw3
         have HBW:=hI (qac HB.out hbW)
         clear hbW hw''
         go_wp2
         go_ret
         exact ⟨qaf HF.out.symm,HBW.out⟩
        ·have g3':decide (x.1≤qgf floor d n)=false:=by simp;omega
         have HOK:Hid ((decide (qgf floor d n < x.1∧x.1≤now) && true)=true):=by show _=_;rw [decide_eq_true (by omega)];rfl
         generalize qgf floor d n=last at *
         clear g1 g2 g3 hn'
         generalize hsf:qbf x.2=sf at z0 HSP
         clear hsf
         go_wp2_with (go_at_call 127;refine (HSP.out _).mono ?_;rintro e w' ⟨rfl,rfl⟩)
         refine qae (by kernel_rfl) (by kernel_rfl) ?_
         repeat (first | go_big_quiet_step (fail) | quiet_step (fail))
         refine wpQuiet_nil ?_
         intro w' hw'
         obtain ⟨⟨W,hbW⟩,hw''⟩:=hw'
         have hw3:w'=W:=hw''
         subst hw3
         have HBW:=hI (qac HB.out hbW)
         have y1:=fun p:ExtW w'=>p.cell (a:=⟨b,off + n * 2 + 1,none⟩) (Nat.lt_of_lt_of_le hbw hbW.size) ((hbW.cell (p:=⟨b,off + n * 2 + 1,none⟩) hbw).trans e1)
         have x1:=(hbW.cell (p:=⟨b,off + n * 2 + 1,none⟩) hbw).trans e1
         have hbw2:b < w'.heap.size:=Nat.lt_of_lt_of_le hbw hbW.size
         have HRW:=hI (HR.out.below HBW.out)
         clear hbW hw'' q0 q2 e1 e0 z0 hbw
         go_wp2
         go_loopw [10] (fun m wr2=>∃ j:Nat,m=.int .i64 j∧j≤n∧Hid (∀ i,i < j→d[i]!.2≠x.2)∧Hid (Below w'.heap.size w' wr2)) (fun m _=>n - (intOf m).toNat)
         case atStart=>exact ⟨0,rfl,Nat.zero_le _,hI (fun i hi=>absurd hi (by omega)),hI (Below.refl _ _)⟩
         case round =>
          obtain ⟨j,rfl,hj,hne,HB2⟩:=hrel
          have y2:=fun p:ExtW wr=>p.cell (a:=⟨b,off + n * 2 + 1,none⟩) (Nat.lt_of_lt_of_le hbw2 HB2.out.size) ((HB2.out.cell (p:=⟨b,off + n * 2 + 1,none⟩) hbw2).trans x1)
          by_cases hlj:j < n
          ·have jz:(j:Int) < (n:Int):=by omega
           have jd:(j:Int) < (d.size:Int):=by omega
           obtain ⟨b',off',e',hbl',f'⟩:=(HRW.out.below (HB2.out.mono HBW.out.size)).at_ (i:=j) (by omega)
           injection e' with e'
           injection e' with eb eo
           subst eb eo
           have u1:=f' 1 (by omega)
           have HEQ:Hid (d[j]!.2=d[j]!.2):=hI rfl
           obtain ⟨y,hy⟩:∃ y,d[j]! = y:=⟨_,rfl⟩
           rw [hy] at u1
           have HY:=hI hy
           simp only [qbe,List.getElem!_cons_zero,List.getElem!_cons_succ] at u1
           have y3:=fun p:ExtW wr=>p.cell (a:=⟨b,off + j * 2 + 1,none⟩) (Nat.lt_of_lt_of_le hbw2 HB2.out.size) u1
           clear f' hy u1 HEQ
           by_cases hq:y.2=x.2
           ·have hq':(y.2 == x.2)=true:=by simpa using hq
            have HF:Hid (clkE now floor d=2):=HNO.out (by
             rw [HAT.out]
             have:(idsU d n).contains x.2=true:=(qhk (by omega)).2 ⟨j,hlj,by rw [HY.out];exact hq⟩
             rw [this];simp)
            clear hq
            go_wp2_with fail
            refine qae (by kernel_rfl) (by kernel_rfl) ?_
            repeat (first | go_big_quiet_step (fail) | quiet_step (fail))
            refine wpQuiet_nil ?_
            intro w' hw'
            obtain ⟨⟨W,hbW⟩,hw''⟩:=hw'
            have hw3:w'=W:=hw''
            subst hw3
            have HB3:=hI (qac HB2.out hbW)
            clear hbW hw'' y2 y3
            go_wp2
            go_ret
            exact ⟨qaf HF.out.symm,qac HBW.out HB3.out⟩
           ·have hq':(y.2 == x.2)=false:=by simpa using hq
            have HQ:=hI hq
            clear hq
            go_wp2_with fail
            refine qae (by kernel_rfl) (by kernel_rfl) ?_
            repeat (first | go_big_quiet_step (fail) | quiet_step (fail))
            refine wpQuiet_nil ?_
            intro w' hw'
            obtain ⟨⟨W,hbW⟩,hw''⟩:=hw'
            have hw3:w'=W:=hw''
            subst hw3
            have HB3:=hI (qac HB2.out hbW)
            clear hbW hw'' y2 y3
            go_wp2
            go_roundw
            case rel =>
             refine ⟨j + 1,by go_num,by omega,hI (fun i hi=>?_),HB3⟩
             rcases Nat.lt_or_ge i j with h | h
             ·exact hne.out i h
             ·obtain rfl:i=j:=by omega
              rw [HY.out];exact HQ.out
            case measure=>simp [intOf];omega
          ·have hlj':decide ((j:Int) < (n:Int))=false:=by simp;omega
           have HT:Hid (qhs now floor d n=true):=by
            show _=_
            rw [HAT.out]
            have:(idsU d n).contains x.2=false:=by
             rw [Bool.eq_false_iff]
             intro hc
             obtain ⟨i,hi,e⟩:=(qhk (by omega)).1 hc
             exact hne.out i (by omega) e
            rw [this,HOK.out];rfl
           go_wp2
           go_roundw
           case rel =>
            refine ⟨n + 1,by go_num,by omega,hI (fun i hi=>?_),hI (qac HBW.out HB2.out)⟩
            rcases Nat.lt_or_ge i n with h | h
            ·exact hall.out i h
            ·obtain rfl:i=n:=by omega
             exact HT.out
           case measure=>simp [intOf];omega
       ·have g0':decide ((0:Int) < (n:Int))=false:=by simp;omega
        have HOK:Hid ((decide (qgf floor d n < x.1∧x.1≤now) && true)=true):=by
         have:=HLT.out.1 (by omega)
         show _=_;rw [decide_eq_true (by omega)];rfl
        have q2:True:=trivial
        clear g1 g2
        generalize hsf:qbf x.2=sf at z0 HSP
        clear hsf
        go_wp2_with (go_at_call 127;refine (HSP.out _).mono ?_;rintro e w' ⟨rfl,rfl⟩)
        refine qae (by kernel_rfl) (by kernel_rfl) ?_
        repeat (first | go_big_quiet_step (fail) | quiet_step (fail))
        refine wpQuiet_nil ?_
        intro w' hw'
        obtain ⟨⟨W,hbW⟩,hw''⟩:=hw'
        have hw3:w'=W:=hw''
        subst hw3
        have HBW:=hI (qac HB.out hbW)
        have y1:=fun p:ExtW w'=>p.cell (a:=⟨b,off + n * 2 + 1,none⟩) (Nat.lt_of_lt_of_le hbw hbW.size) ((hbW.cell (p:=⟨b,off + n * 2 + 1,none⟩) hbw).trans e1)
        have x1:=(hbW.cell (p:=⟨b,off + n * 2 + 1,none⟩) hbw).trans e1
        have hbw2:b < w'.heap.size:=Nat.lt_of_lt_of_le hbw hbW.size
        have HRW:=hI (HR.out.below HBW.out)
        clear hbW hw'' q0 q2 e1 e0 z0 hbw
        go_wp2
        go_loopw [10] (fun m wr2=>∃ j:Nat,m=.int .i64 j∧j≤n∧Hid (∀ i,i < j→d[i]!.2≠x.2)∧Hid (Below w'.heap.size w' wr2)) (fun m _=>n - (intOf m).toNat)
        case atStart=>exact ⟨0,rfl,Nat.zero_le _,hI (fun i hi=>absurd hi (by omega)),hI (Below.refl _ _)⟩
        case round =>
         obtain ⟨j,rfl,hj,hne,HB2⟩:=hrel
         have y2:=fun p:ExtW wr=>p.cell (a:=⟨b,off + n * 2 + 1,none⟩) (Nat.lt_of_lt_of_le hbw2 HB2.out.size) ((HB2.out.cell (p:=⟨b,off + n * 2 + 1,none⟩) hbw2).trans x1)
         by_cases hlj:j < n
         ·have jz:(j:Int) < (n:Int):=by omega
          have jd:(j:Int) < (d.size:Int):=by omega
          obtain ⟨b',off',e',hbl',f'⟩:=(HRW.out.below (HB2.out.mono HBW.out.size)).at_ (i:=j) (by omega)
          injection e' with e'
          injection e' with eb eo
          subst eb eo
          have u1:=f' 1 (by omega)
          have HEQ:Hid (d[j]!.2=d[j]!.2):=hI rfl
          obtain ⟨y,hy⟩:∃ y,d[j]! = y:=⟨_,rfl⟩
          rw [hy] at u1
          have HY:=hI hy
          simp only [qbe,List.getElem!_cons_zero,List.getElem!_cons_succ] at u1
          have y3:=fun p:ExtW wr=>p.cell (a:=⟨b,off + j * 2 + 1,none⟩) (Nat.lt_of_lt_of_le hbw2 HB2.out.size) u1
          clear f' hy u1 HEQ
          by_cases hq:y.2=x.2
          ·have hq':(y.2 == x.2)=true:=by simpa using hq
           have HF:Hid (clkE now floor d=2):=HNO.out (by
            rw [HAT.out]
            have:(idsU d n).contains x.2=true:=(qhk (by omega)).2 ⟨j,hlj,by rw [HY.out];exact hq⟩
            rw [this];simp)
           clear hq
           go_wp2_with fail
           refine qae (by kernel_rfl) (by kernel_rfl) ?_
           repeat (first | go_big_quiet_step (fail) | quiet_step (fail))
           refine wpQuiet_nil ?_
           intro w' hw'
           obtain ⟨⟨W,hbW⟩,hw''⟩:=hw'
           have hw3:w'=W:=hw''
           subst hw3
           have HB3:=hI (qac HB2.out hbW)
           clear hbW hw'' y2 y3
           go_wp2
           go_ret
           exact ⟨qaf HF.out.symm,qac HBW.out HB3.out⟩
          ·have hq':(y.2 == x.2)=false:=by simpa using hq
           have HQ:=hI hq
           clear hq
           go_wp2_with fail
           refine qae (by kernel_rfl) (by kernel_rfl) ?_
           repeat (first | go_big_quiet_step (fail) | quiet_step (fail))
           refine wpQuiet_nil ?_
           intro w' hw'
           obtain ⟨⟨W,hbW⟩,hw''⟩:=hw'
           have hw3:w'=W:=hw''
           subst hw3
           have HB3:=hI (qac HB2.out hbW)
           clear hbW hw'' y2 y3
           go_wp2
           go_roundw
           case rel =>
            refine ⟨j + 1,by go_num,by omega,hI (fun i hi=>?_),HB3⟩
            rcases Nat.lt_or_ge i j with h | h
            ·exact hne.out i h
            ·obtain rfl:i=j:=by omega
             rw [HY.out];exact HQ.out
           case measure=>simp [intOf];omega
         ·have hlj':decide ((j:Int) < (n:Int))=false:=by simp;omega
          have HT:Hid (qhs now floor d n=true):=by
           show _=_
           rw [HAT.out]
           have:(idsU d n).contains x.2=false:=by
            rw [Bool.eq_false_iff]
            intro hc
            obtain ⟨i,hi,e⟩:=(qhk (by omega)).1 hc
            exact hne.out i (by omega) e
           rw [this,HOK.out];rfl
          go_wp2
          go_roundw
          case rel =>
           refine ⟨n + 1,by go_num,by omega,hI (fun i hi=>?_),hI (qac HBW.out HB2.out)⟩
           rcases Nat.lt_or_ge i n with h | h
           ·exact hall.out i h
           ·obtain rfl:i=n:=by omega
            exact HT.out
          case measure=>simp [intOf];omega
    ·rw [decide_eq_false hid] at z0
     have HF:Hid (clkE now floor d=2):=HNO.out (by rw [HAT.out,decide_eq_false hid];simp)
     clear hid
     generalize qbf x.2=sf at z0 HSP
     go_wp2_with (go_at_call 127;refine (HSP.out _).mono ?_;rintro e w' ⟨rfl,rfl⟩)
     refine qae (by kernel_rfl) (by kernel_rfl) ?_
     repeat (first | go_big_quiet_step (fail) | quiet_step (fail))
     refine wpQuiet_nil ?_
     intro w' hw'
     obtain ⟨⟨W,hbW⟩,hw''⟩:=hw'
     have hw3:w'=W:=hw''
     subst hw3
     have HBW:=hI (qac HB.out hbW)
     clear hbW hw''
     go_wp2
     go_ret
     exact ⟨qaf HF.out.symm,HBW.out⟩
   ·have hlt':decide ((n:Int) < (d.size:Int))=false:=by simp;omega
    go_wp2
    go_ret
    exact ⟨qaf (qvu HG.out fun i hi=>hall.out i (by omega)).symm,HB.out⟩
 ·have HE:=hI (qvv (d:=d) g)
  go_enter Tryz.func123,Tryz.ntmps123
  rcases (show floor < 0∨(¬ floor < 0∧now < floor)∨(¬ floor < 0∧¬ now < floor∧1000000 < now) by omega) with g1 | ⟨g1,g2⟩ | ⟨g1,g2,g3⟩
  ·have p1:decide (floor < 0)=true:=decide_eq_true g1
   clear g1 g
   go_wp2
   go_ret
   exact ⟨qaf HE.out.symm,Below.refl _ _⟩
  ·have p1:decide (floor < 0)=false:=decide_eq_false g1
   have p2:decide (now < floor)=true:=decide_eq_true g2
   clear g1 g2 g
   go_wp2
   go_ret
   exact ⟨qaf HE.out.symm,Below.refl _ _⟩
  ·have p1:decide (floor < 0)=false:=decide_eq_false g1
   have p2:decide (now < floor)=false:=decide_eq_false g2
   have p3:decide ((1000000:Int) < now)=true:=decide_eq_true g3
   clear g1 g2 g3 g
   go_wp2
   go_ret
   exact ⟨qaf HE.out.symm,Below.refl _ _⟩
end Go.Proofs.YtnmojicfmcbgmaaGreatDoor
