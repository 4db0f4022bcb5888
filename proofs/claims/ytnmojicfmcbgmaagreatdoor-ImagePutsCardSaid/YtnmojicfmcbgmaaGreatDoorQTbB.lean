/- Texts that the law leans on. -/
import Derived.Deep.LoopGhost
import Derived.Shelf.Abstract
import Derived.Test.YtnmojicfmcbgmaaGreatDoorQEnC
namespace Go.Proofs.YtnmojicfmcbgmaaGreatDoor
open Go.RowKit Go.Sort Go.Lib
set_option maxRecDepth 100000
def FindR (d:Array EN) (n:Int) (r:EN×Bool):Prop:=(∃ k,k < d.size∧r=(d[k]!,true)∧d[k]!.id=n∧∀ j,j < k→d[j]!.id≠n)∨(r=(default,false)∧∀ j,j < d.size→d[j]!.id≠n)
theorem FindR.uniq {d:Array EN} {n:Int} {r s:EN×Bool} (h:FindR d n r) (g:FindR d n s):r=s:=by
 rcases h with ⟨k,hk,e1,e2,e3⟩ | ⟨e1,e2⟩ <;> rcases g with ⟨m,hm,f1,f2,f3⟩ | ⟨f1,f2⟩
 ·have:k=m:=by
   rcases Nat.lt_trichotomy k m with h | h | h
   ·exact absurd e2 (f3 k h)
   ·exact h
   ·exact absurd f2 (e3 m h)
  rw [e1,f1,this]
 ·exact absurd e2 (f2 k hk)
 ·exact absurd f2 (e2 m hm)
 ·rw [e1,f1]
theorem RdE.default (w:World):RdE w default:=⟨fun h=>absurd h (by decide),Nat.le_refl _,by decide,by decide⟩
theorem FindR.rd {w:World} {A:Option Addr} {d:Array EN} {n:Int} {r:EN×Bool} (h:FindR d n r) (g:RdT w A d):RdE w r.1:=by
 rcases h with ⟨k,hk,e1,_⟩ | ⟨e1,_⟩
 ·rw [e1];exact g.el k hk
 ·rw [e1];exact RdE.default w
end Go.Proofs.YtnmojicfmcbgmaaGreatDoor
namespace Go.Proofs.YtnmojicfmcbgmaaGreatDoor
open Go.RowKit Go.Sort Go.Lib
set_option maxRecDepth 100000
def qij (d1 d2:Array EN):Bool:=decide (d1.size=d2.size∧∀ i,i < d1.size→qkk d1[i]! d2[i]!)
theorem qnu (d:Array EN):qij d d=true:=by unfold qij;rw [decide_eq_true_eq];exact ⟨rfl,fun i _=>qxf _⟩
theorem sameT_no {d1 d2:Array EN} (k:Nat) (hk:k < d1.size) (h:decide (qkk d1[k]! d2[k]!)=false):qij d1 d2=false:=by
 unfold qij
 rw [decide_eq_false_iff_not] at h ⊢
 exact fun g=>h (g.2 k hk)
set_option maxHeartbeats 16000000 in
theorem quc (A1 A2:Option Addr) (c1 c2:Nat) (d1 d2:Array EN) (w:World) (h1:RdT w A1 d1) (h2:RdT w A2 d2) :
 Calls Tryz.prog 102 #[.slice A1 d1.size c1,.slice A2 d2.size c2] w fun e w'=>e=.returned (.bool (qij d1 d2))∧Below w.heap.size w w':=by
 have HR1:=hI h1
 have HR2:=hI h2
 clear h1 h2
 by_cases hs:d1.size=d2.size
 ·have hb:((d1.size:Int) != (d2.size:Int))=false:=by simp [hs]
  have HS:=hI hs
  have hge:d1.size≤d2.size:=by omega
  have hsz:d1.size≤1000:=HR1.out.sz
  clear hs
  go_enter Tryz.func102,Tryz.ntmps102
  go_wp2
  go_loopw [5] (fun i wr=>∃ k:Nat,i=.int .i64 k∧k≤d1.size∧Hid (∀ j,j < k→qkk d1[j]! d2[j]!)∧Hid (Below w.heap.size w wr)) (fun i _=>d1.size - (intOf i).toNat)
  case atStart=>exact ⟨0,rfl,Nat.zero_le _,hI (fun j hj=>absurd hj (by omega)),hI (Below.refl _ _)⟩
  case round =>
   obtain ⟨k,rfl,hk,hall,HB⟩:=hrel
   by_cases hlt:k < d1.size
   ·have kz:(k:Int) < (d1.size:Int):=by omega
    have kz2:(k:Int) < (d2.size:Int):=by omega
    obtain ⟨b1,o1,rfl,hl1,f1⟩:=(HR1.out.below HB.out).rd.at_ (i:=k) (by omega)
    obtain ⟨b2,o2,rfl,hl2,f2⟩:=(HR2.out.below HB.out).rd.at_ (i:=k) (by omega)
    have e0:=f1 0 (by omega)
    have e1:=f1 1 (by omega)
    have e2:=f1 2 (by omega)
    have e3:=f1 3 (by omega)
    have e4:=f1 4 (by omega)
    have e5:=f1 5 (by omega)
    have e6:=f1 6 (by omega)
    have e7:=f1 7 (by omega)
    have e8:=f1 8 (by omega)
    have e9:=f1 9 (by omega)
    have g0:=f2 0 (by omega)
    have g1:=f2 1 (by omega)
    have g2:=f2 2 (by omega)
    have g3:=f2 3 (by omega)
    have g4:=f2 4 (by omega)
    have g5:=f2 5 (by omega)
    have g6:=f2 6 (by omega)
    have g7:=f2 7 (by omega)
    have g8:=f2 8 (by omega)
    have g9:=f2 9 (by omega)
    have HC:=hI (fun W (hb:Below wr.heap.size wr W)=>qsg d1[k]! d2[k]! W ((HR1.out.below (qac HB.out hb)).el k hlt).zero ((HR2.out.below (qac HB.out hb)).el k (by omega)).zero (by have:=(HR1.out.el k hlt).sz;omega) (by have:=(HR2.out.el k (by omega)).sz;omega))
    obtain ⟨q,hq⟩:∃ q,decide (qkk d1[k]! d2[k]!)=q:=⟨_,rfl⟩
    rw [hq] at HC
    have HQ:=hI hq
    clear hq
    obtain ⟨x,hx⟩:∃ x,d1[k]! = x:=⟨_,rfl⟩
    obtain ⟨y,hy⟩:∃ y,d2[k]! = y:=⟨_,rfl⟩
    rw [hx] at e0 e1 e2 e3 e4 e5 e6 e7 e8 e9 HC
    rw [hy] at g0 g1 g2 g3 g4 g5 g6 g7 g8 g9 HC
    clear f1 f2 hx hy
    simp only [Nat.add_zero,encE,List.getElem!_cons_zero,List.getElem!_cons_succ] at e0 e1 e2 e3 e4 e5 e6 e7 e8 e9 g0 g1 g2 g3 g4 g5 g6 g7 g8 g9 HC
    have p0:=fun p:ExtW wr=>p.cell (a:=⟨b1,o1 + k * 10,none⟩) hl1 e0
    have p1:=fun p:ExtW wr=>p.cell (a:=⟨b1,o1 + k * 10 + 1,none⟩) hl1 e1
    have p2:=fun p:ExtW wr=>p.cell (a:=⟨b1,o1 + k * 10 + 2,none⟩) hl1 e2
    have p3:=fun p:ExtW wr=>p.cell (a:=⟨b1,o1 + k * 10 + 3,none⟩) hl1 e3
    have p4:=fun p:ExtW wr=>p.cell (a:=⟨b1,o1 + k * 10 + 4,none⟩) hl1 e4
    have p5:=fun p:ExtW wr=>p.cell (a:=⟨b1,o1 + k * 10 + 5,none⟩) hl1 e5
    have p6:=fun p:ExtW wr=>p.cell (a:=⟨b1,o1 + k * 10 + 6,none⟩) hl1 e6
    have p7:=fun p:ExtW wr=>p.cell (a:=⟨b1,o1 + k * 10 + 7,none⟩) hl1 e7
    have p8:=fun p:ExtW wr=>p.cell (a:=⟨b1,o1 + k * 10 + 8,none⟩) hl1 e8
    have p9:=fun p:ExtW wr=>p.cell (a:=⟨b1,o1 + k * 10 + 9,none⟩) hl1 e9
    have q0:=fun p:ExtW wr=>p.cell (a:=⟨b2,o2 + k * 10,none⟩) hl2 g0
    have q1:=fun p:ExtW wr=>p.cell (a:=⟨b2,o2 + k * 10 + 1,none⟩) hl2 g1
    have q2:=fun p:ExtW wr=>p.cell (a:=⟨b2,o2 + k * 10 + 2,none⟩) hl2 g2
    have q3:=fun p:ExtW wr=>p.cell (a:=⟨b2,o2 + k * 10 + 3,none⟩) hl2 g3
    have q4:=fun p:ExtW wr=>p.cell (a:=⟨b2,o2 + k * 10 + 4,none⟩) hl2 g4
    have q5:=fun p:ExtW wr=>p.cell (a:=⟨b2,o2 + k * 10 + 5,none⟩) hl2 g5
    have q6:=fun p:ExtW wr=>p.cell (a:=⟨b2,o2 + k * 10 + 6,none⟩) hl2 g6
    have q7:=fun p:ExtW wr=>p.cell (a:=⟨b2,o2 + k * 10 + 7,none⟩) hl2 g7
    have q8:=fun p:ExtW wr=>p.cell (a:=⟨b2,o2 + k * 10 + 8,none⟩) hl2 g8
    have q9:=fun p:ExtW wr=>p.cell (a:=⟨b2,o2 + k * 10 + 9,none⟩) hl2 g9
    clear e0 e1 e2 e3 e4 e5 e6 e7 e8 e9 g0 g1 g2 g3 g4 g5 g6 g7 g8 g9
    cases q
    all_goals
     go_wp2_with fail
     refine qae (by kernel_rfl) (by kernel_rfl) ?_
     repeat (first | go_big_quiet_step ((go_at_call 149;exact Calls.ext_of (HC.out _ (ExtW.h _)))) | quiet_step (fail))
     refine wpQuiet_nil ?_
     intro w' hw'
     obtain ⟨⟨W,hbW⟩,hw''⟩:=hw'
     have hw3:w'=W:=hw''
     subst hw3
     have HW:=hI (qac HB.out hbW)
     clear hbW hw'' p0 p1 p2 p3 p4 p5 p6 p7 p8 p9 q0 q1 q2 q3 q4 q5 q6 q7 q8 q9
     go_wp2
     first
      | (go_roundw
         case rel =>
          refine ⟨k + 1,by go_num,by omega,hI (fun j hj=>?_),HW⟩
          rcases Nat.lt_or_ge j k with h | h
          ·exact hall.out j h
          ·obtain rfl:j=k:=by omega
           exact of_decide_eq_true HQ.out
         case measure=>simp [intOf];omega)
      | (go_ret
         exact ⟨qag (sameT_no k hlt HQ.out).symm,HW.out⟩)
   ·have hlt':decide ((k:Int) < (d1.size:Int))=false:=by simp;omega
    have HF:Hid (qij d1 d2=true):=by
     show _=_
     unfold qij
     rw [decide_eq_true_eq]
     exact ⟨HS.out,fun i hi=>hall.out i (by omega)⟩
    go_wp2
    go_ret
    exact ⟨qag HF.out.symm,HB.out⟩
 ·have hb:((d1.size:Int) != (d2.size:Int))=true:=by simp;omega
  have HF:Hid (qij d1 d2=false):=by
   show _=_
   unfold qij
   rw [decide_eq_false_iff_not]
   exact fun g=>hs g.1
  clear hs
  go_enter Tryz.func102,Tryz.ntmps102
  go_wp2
  go_ret
  exact ⟨qag HF.out.symm,Below.refl _ _⟩
end Go.Proofs.YtnmojicfmcbgmaaGreatDoor
