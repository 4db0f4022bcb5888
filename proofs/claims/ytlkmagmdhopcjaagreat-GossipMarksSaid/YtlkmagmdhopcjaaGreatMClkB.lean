/- Texts that the law leans on. -/
import Derived.Test.YtlkmagmdhopcjaaGreatMOwnK
import Derived.Test.YtlkmagmdhopcjaaGreatMIdentB
namespace Go.Proofs.YtlkmagmdhopcjaaGreat
open Go.RowKit Go.Sort Go.Lib Go.Maps
set_option maxRecDepth 100000
theorem law_int:Keyed Tryz.prog 3:=int_keyed Tryz.underlying3
theorem zero_bool (w:World):(zeroValue 4).run Tryz.prog w=.ok (.bool false) w:=by kernel_rfl
theorem qjc (id:Int):(qef id != 0) = !decide (10≤id∧id≤999999∧id % 10≠0):=by
 unfold qef
 by_cases h:id < 10∨999999 < id∨id % 10=0
 ·rw [if_pos h,decide_eq_false (by omega)];rfl
 ·rw [if_neg h,decide_eq_true (by omega)];rfl
theorem wf_id {id:Int} (h:10≤id∧id≤999999∧id % 10≠0):(Lit.int .i64 id).wf=true:=by
 have a:(-9223372036854775808:Int)≤id:=by omega
 have b:id≤9223372036854775807:=by omega
 simp [Lit.wf,IntKind.min,IntKind.max,IntKind.signed,IntKind.bits]
 omega
set_option maxHeartbeats 8000000 in
theorem clk_any (now floor:Int) (A:Option Addr) (c:Nat) (d:Array (Int×Int)) (w:World) (h:RdK qaf 2 w.heap.size w A d) (hs:d.size≤1000000) :
 Calls Tryz.prog 121 #[.int .i64 now,.int .i64 floor,.slice A d.size c] w fun e w'=>e=.returned (.int .i64 (clkE now floor d))∧Below w.heap.size w w':=by
 have HR:=hI h
 clear h
 have hmm:=@run_makeMap Tryz.prog
 by_cases g:0≤floor∧floor≤now∧now≤1000000
 ·have q1:decide (floor < 0)=false:=by simp;omega
  have q2:decide (now < floor)=false:=by simp;omega
  have q3:decide ((1000000:Int) < now)=false:=by simp;omega
  have HG:=hI g
  clear g
  go_enter Tryz.func121,Tryz.ntmps121
  go_wp2
  go_loopw [7,26] (fun la i wr=>∃ k:Nat,i=.int .i64 k∧k≤d.size∧la=.int .i64 (qtn floor d k)∧Hid (∀ j,j < k→qmi now floor d j=true)∧Hid (Below w.heap.size w wr)∧Hid (wr.ownsMap Tryz.prog 3 (plainElem (H:=Unit) Tryz.prog 4) w.heap.size k (qxu (idsU d k)))) (fun _ i _=>d.size - (intOf i).toNat)
  case atStart=>exact ⟨0,rfl,Nat.zero_le _,rfl,hI (fun j hj=>absurd hj (by omega)),hI (bel1 w _),hI (World.ownsMap_made _ _ _ _)⟩
  case round =>
   obtain ⟨k,rfl,hk,rfl,hall,HB,HM⟩:=hrel
   by_cases hlt:k < d.size
   ·have kz:(k:Int) < (d.size:Int):=by omega
    obtain ⟨b,off,rfl,hbl,f⟩:=(HR.out.below HB.out).at_ (i:=k) (by omega)
    have e0:=f 0 (by omega)
    have e1:=f 1 (by omega)
    have HAT:=hI (clkAt_eq hlt hall.out)
    have HNX:Hid (idsU d (k + 1)=idsU d k ++ [d[k]!.2]):=idsU_succ hlt
    have HLA:Hid (qtn floor d (k + 1)=d[k]!.1):=by show qtn floor d (k + 1)=_;unfold qtn;rw [if_neg (by omega)];rfl
    have HNO:=hI (fun e:qmi now floor d k=false=>clkE_no k hlt e)
    obtain ⟨x,hx⟩:∃ x,d[k]! = x:=⟨_,rfl⟩
    rw [hx] at e0 e1 HAT HNX HLA
    clear f hx
    obtain ⟨t,id⟩:=x
    simp only [Nat.add_zero,qaf,List.getElem!_cons_zero,List.getElem!_cons_succ] at e0 e1 HAT HNX HLA
    have hck:=qjc id
    by_cases hv:10≤id∧id≤999999∧id % 10≠0
    ·rw [decide_eq_true hv] at hck
     have hkey:keyOf Tryz.prog 3 (.int .i64 id)=some (.int .i64 id):=keyOf_int_mk Tryz.underlying3 (wf_id hv)
     obtain ⟨bx,hlk,hat⟩:=qmh (HM.out.alloc (.cells #[.int .i64 t,.int .i64 id] 29)) law_int Tryz.underlying213 Tryz.underlying4 (zero_bool _) hkey
     rw [seen_at _ _ (wf_id hv)] at hat
     have hbx:(idsU d k).contains id=bx:=by simpa using hat
     rw [decide_eq_true hv,hbx] at HAT
     clear hat hbx hv
     go_wp2_with (first
      | (go_at_call 130;refine (qcb _ _).mono ?_;rintro _ _ ⟨rfl,rfl⟩)
      | (at_mapUpdate;refine wpList_mapUpdate_own _ rfl _ _ _ 213 rfl 3 4 law_int Tryz.underlying213 (plainElem (H:=Unit) Tryz.prog 4) w.heap.size k _ rfl (HM.out.alloc _) (by unfold maxLen;omega) _ _ _ rfl rfl hkey _ [] (plainElem_bool Tryz.underlying4 true) ?_;intro w1 hown1 hgrow1;have HO1:=hI hown1;have HGR:=hI hgrow1;clear hown1 hgrow1))
     all_goals first
      | (go_ret
         refine ⟨qan (HNO.out ?_).symm,qab HB.out _⟩
         rw [HAT.out]
         grind)
      | (go_roundw
         case rel =>
          refine ⟨k + 1,by go_num,by omega,by rw [HLA.out],hI (fun j hj=>?_),hI ?_,hI ?_⟩
          ·rcases Nat.lt_or_ge j k with h | h
           ·exact hall.out j h
           ·obtain rfl:j=k:=by omega
            rw [HAT.out]
            grind
          ·exact (qab HB.out _).grown HGR.out (by have:=HB.out.size;simp;omega) (fun j hj=>by cases hj;exact Nat.le_refl _)
          ·rw [HNX.out,seen_snoc];exact HO1.out
         case measure=>simp [intOf];omega)
    ·rw [decide_eq_false hv] at hck HAT
     clear hv
     go_wp2_with (go_at_call 130;refine (qcb _ _).mono ?_;rintro _ _ ⟨rfl,rfl⟩)
     all_goals
      go_ret
      refine ⟨qan (HNO.out ?_).symm,qab HB.out _⟩
      rw [HAT.out]
      grind
   ·have hlt':decide ((k:Int) < (d.size:Int))=false:=by simp;omega
    go_wp2
    go_ret
    exact ⟨qan (clkE_yes HG.out fun i hi=>hall.out i (by omega)).symm,HB.out⟩
 ·have HE:=hI (clkE_out (d:=d) g)
  rcases (show floor < 0∨(¬ floor < 0∧now < floor)∨(¬ floor < 0∧¬ now < floor∧1000000 < now) by omega) with g1 | ⟨g1,g2⟩ | ⟨g1,g2,g3⟩
  all_goals clear g
  go_enter Tryz.func121,Tryz.ntmps121
  go_wp2
  all_goals first
   | (go_ret;exact ⟨qan HE.out.symm,Below.refl _ _⟩)
end Go.Proofs.YtlkmagmdhopcjaaGreat
