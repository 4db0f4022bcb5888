/- Texts that the law leans on. -/
import Derived.BigQuiet
import Derived.Test.YtnmojicfmcbgmaaGreatDoorQStG
import Derived.Test.YtnmojicfmcbgmaaGreatDoorQStF
import Derived.Test.YtnmojicfmcbgmaaGreatDoorQOwnK
import Derived.Test.YtnmojicfmcbgmaaGreatDoorQTbD
namespace Go.Proofs.YtnmojicfmcbgmaaGreatDoor
open Go.RowKit Go.Sort Go.Lib
set_option maxRecDepth 100000
set_option maxHeartbeats 16000000 in
theorem rStk_any (A:Option Addr) (c:Nat) (d:Array IT) (w:World) (h:RdK qdc 4 w.heap.size w A d) :
 Calls Tryz.prog 130 #[.slice A d.size c] w fun e w'=>e=.returned (.int .i64 (itsE d))∧Below w.heap.size w w':=by
 have HR:=hI h
 clear h
 by_cases hs:d.size≤20
 ·have hs':decide ((20:Int) < (d.size:Int))=false:=decide_eq_false (by omega)
  go_enter Tryz.func130,Tryz.ntmps130
  go_wp2
  go_loopw [3] (fun i wr=>∃ k:Nat,i=.int .i64 k∧k≤d.size∧Hid (∀ j,j < k→itB d[j]! = true∧(0 < j→d[j - 1]!.id < d[j]!.id))∧Hid (Below w.heap.size w wr)) (fun i _=>d.size - (intOf i).toNat)
  case atStart=>exact ⟨0,rfl,Nat.zero_le _,hI (fun j hj=>absurd hj (by omega)),hI (Below.refl _ _)⟩
  case round =>
   obtain ⟨k,rfl,hk,hall,HB⟩:=hrel
   by_cases hlt:k < d.size
   ·have kz:(k:Int) < (d.size:Int):=by omega
    obtain ⟨b,off,rfl,hbl0,f⟩:=(HR.out.below HB.out).at_ (i:=k) (by omega)
    have hbl:=Nat.lt_of_lt_of_le hbl0 HB.out.size
    clear hbl0
    have e0:=f 0 (by omega)
    have e1:=f 1 (by omega)
    have e2:=f 2 (by omega)
    have e3:=f 3 (by omega)
    have HPV:Hid (0 < k→wr.cell? ⟨b,off + (k - 1) * 4,none⟩=some (.int .i64 d[k - 1]!.id)):=fun h0=>by
     obtain ⟨b2,off2,e2,_,f2⟩:=(HR.out.below HB.out).at_ (i:=k - 1) (by omega)
     injection e2 with e2
     injection e2 with eb eo
     subst eb eo
     have:=f2 0 (by omega)
     simp only [qdc,Nat.add_zero,List.getElem!_cons_zero] at this
     exact this
    have HNO:Hid (¬ (itB d[k]! = true∧(0 < k→d[k - 1]!.id < d[k]!.id))→itsE d=2):=itsE_no k hlt
    have HJ:Hid (itB d[k]! = true∧(0 < k→d[k - 1]!.id < d[k]!.id)→∀ j,j < k + 1→itB d[j]! = true∧(0 < j→d[j - 1]!.id < d[j]!.id)):=fun h j hj=>by
     rcases Nat.lt_or_ge j k with h' | h'
     ·exact hall.out j h'
     ·obtain rfl:j=k:=by omega
      exact h
    generalize d[k - 1]!.id=pid at HPV HNO HJ
    obtain ⟨x,hx⟩:∃ x,d[k]! = x:=⟨_,rfl⟩
    rw [hx] at e0 e1 e2 e3 HNO HJ
    clear f hx
    have HMY:Hid (itB x=true↔_):=hI (by unfold itB;exact decide_eq_true_iff)
    simp only [Nat.add_zero,qdc,List.getElem!_cons_zero,List.getElem!_cons_succ] at e0 e1 e2 e3
    have HX:=hI (BoxW.init wr #[.int .i64 x.id,.int .i64 x.free,.int .i64 x.held,.int .i64 x.gone] 84)
    go_wp2
    have hl0:b < (wr.alloc (.cells #[.int .i64 x.id,.int .i64 x.free,.int .i64 x.held,.int .i64 x.gone] 84)).heap.size:=by simp;omega
    have HPV1:Hid (0 < k→(wr.alloc (.cells #[.int .i64 x.id,.int .i64 x.free,.int .i64 x.held,.int .i64 x.gone] 84)).cell? ⟨b,off + (k - 1) * 4,none⟩=some (.int .i64 pid)):=fun h0=>(World.cell?_alloc_lt wr _ _ hbl).trans (HPV.out h0)
    have HPV:=HPV1
    clear HPV1 e0 e1 e2 e3
    have HBX:=hI (qad HB.out (.cells #[.int .i64 x.id,.int .i64 x.free,.int .i64 x.held,.int .i64 x.gone] 84))
    generalize wr.alloc (.cells #[.int .i64 x.id,.int .i64 x.free,.int .i64 x.held,.int .i64 x.gone] 84)=w1 at HX HBX HPV hl0 ⊢
    have e0:=HX.out.at_ 0
    have e1:=HX.out.at_ 1
    have e2:=HX.out.at_ 2
    have e3:=HX.out.at_ 3
    by_cases h0:x.id < 1
    ·have g0:decide (x.id < 1)=true:=decide_eq_true (by omega)
     have HF:Hid (itsE d=2):=HNO.out (fun h=>by have:=HMY.out.1 h.1;omega)
     go_quiet (fail)
     have HW:=hI (qax HBX.out nq)
     clear e0 e1 e2 e3
     go_wp2
     go_ret
     exact ⟨qaf HF.out.symm,HW.out⟩
    have g0:decide (x.id < 1)=false:=decide_eq_false (by omega)
    by_cases h1:99999 < x.id
    ·have g1:decide (99999 < x.id)=true:=decide_eq_true (by omega)
     have HF:Hid (itsE d=2):=HNO.out (fun h=>by have:=HMY.out.1 h.1;omega)
     go_quiet (fail)
     have HW:=hI (qax HBX.out nq)
     clear e0 e1 e2 e3
     go_wp2
     go_ret
     exact ⟨qaf HF.out.symm,HW.out⟩
    have g1:decide (99999 < x.id)=false:=decide_eq_false (by omega)
    by_cases h2:x.free < 0
    ·have g2:decide (x.free < 0)=true:=decide_eq_true (by omega)
     have HF:Hid (itsE d=2):=HNO.out (fun h=>by have:=HMY.out.1 h.1;omega)
     go_quiet (fail)
     have HW:=hI (qax HBX.out nq)
     clear e0 e1 e2 e3
     go_wp2
     go_ret
     exact ⟨qaf HF.out.symm,HW.out⟩
    have g2:decide (x.free < 0)=false:=decide_eq_false (by omega)
    by_cases h3:x.held < 0
    ·have g3:decide (x.held < 0)=true:=decide_eq_true (by omega)
     have HF:Hid (itsE d=2):=HNO.out (fun h=>by have:=HMY.out.1 h.1;omega)
     go_quiet (fail)
     have HW:=hI (qax HBX.out nq)
     clear e0 e1 e2 e3
     go_wp2
     go_ret
     exact ⟨qaf HF.out.symm,HW.out⟩
    have g3:decide (x.held < 0)=false:=decide_eq_false (by omega)
    by_cases h4:x.gone < 0
    ·have g4:decide (x.gone < 0)=true:=decide_eq_true (by omega)
     have HF:Hid (itsE d=2):=HNO.out (fun h=>by have:=HMY.out.1 h.1;omega)
     go_quiet (fail)
     have HW:=hI (qax HBX.out nq)
     clear e0 e1 e2 e3
     go_wp2
     go_ret
     exact ⟨qaf HF.out.symm,HW.out⟩
    have g4:decide (x.gone < 0)=false:=decide_eq_false (by omega)
    by_cases h5:1000000 < x.free
    ·have g5:decide (1000000 < x.free)=true:=decide_eq_true (by omega)
     have HF:Hid (itsE d=2):=HNO.out (fun h=>by have:=HMY.out.1 h.1;omega)
     go_quiet (fail)
     have HW:=hI (qax HBX.out nq)
     clear e0 e1 e2 e3
     go_wp2
     go_ret
     exact ⟨qaf HF.out.symm,HW.out⟩
    have g5:decide (1000000 < x.free)=false:=decide_eq_false (by omega)
    by_cases h6:1000000 - x.free < x.held
    ·have g6:decide (1000000 - x.free < x.held)=true:=decide_eq_true (by omega)
     have HF:Hid (itsE d=2):=HNO.out (fun h=>by have:=HMY.out.1 h.1;omega)
     go_quiet (fail)
     have HW:=hI (qax HBX.out nq)
     clear e0 e1 e2 e3
     go_wp2
     go_ret
     exact ⟨qaf HF.out.symm,HW.out⟩
    have g6:decide (1000000 - x.free < x.held)=false:=decide_eq_false (by omega)
    by_cases h7:1000000 - x.free - x.held < x.gone
    ·have g7:decide (1000000 - x.free - x.held < x.gone)=true:=decide_eq_true (by omega)
     have HF:Hid (itsE d=2):=HNO.out (fun h=>by have:=HMY.out.1 h.1;omega)
     go_quiet (fail)
     have HW:=hI (qax HBX.out nq)
     clear e0 e1 e2 e3
     go_wp2
     go_ret
     exact ⟨qaf HF.out.symm,HW.out⟩
    have g7:decide (1000000 - x.free - x.held < x.gone)=false:=decide_eq_false (by omega)
    have hmy:itB x=true:=HMY.out.2 (by omega)
    by_cases h0:0 < k
    ·have h0':decide ((0:Int) < (k:Int))=true:=decide_eq_true (by omega)
     obtain ⟨k',hk'⟩:∃ k',k' + 1=k:=⟨k - 1,by omega⟩
     have hsub:(k:Int) - 1=(k':Int):=by omega
     have kz':(k':Int) < (d.size:Int):=by omega
     have pv:=HPV.out h0
     rw [show k - 1=k' by omega] at pv
     clear HPV
     by_cases hle:x.id≤pid
     ·have hle':decide (x.id≤pid)=true:=decide_eq_true hle
      have HF:Hid (itsE d=2):=HNO.out (fun h=>by have:=h.2 h0;omega)
      clear hle hk'
      go_quiet (fail)
      have HW:=hI (qax HBX.out nq)
      clear e0 e1 e2 e3
      go_wp2
      go_ret
      exact ⟨qaf HF.out.symm,HW.out⟩
     ·have hle':decide (x.id≤pid)=false:=decide_eq_false hle
      have HT:Hid (itB x=true∧(0 < k→pid < x.id)):=⟨hmy,fun _=>by omega⟩
      clear hle hk'
      go_quiet (fail)
      have HW:=hI (qax HBX.out nq)
      clear e0 e1 e2 e3
      go_wp2
      go_roundw
      case rel=>exact ⟨k + 1,by go_num,by omega,hI (HJ.out HT.out),HW⟩
      case measure=>simp [intOf];omega
    ·have h0':decide ((0:Int) < (k:Int))=false:=decide_eq_false (by omega)
     have HT:Hid (itB x=true∧(0 < k→pid < x.id)):=⟨hmy,fun h=>absurd h h0⟩
     clear HPV
     go_quiet (fail)
     have HW:=hI (qax HBX.out nq)
     clear e0 e1 e2 e3
     go_wp2
     go_roundw
     case rel=>exact ⟨k + 1,by go_num,by omega,hI (HJ.out HT.out),HW⟩
     case measure=>simp [intOf];omega
   ·have hlt':decide ((k:Int) < (d.size:Int))=false:=decide_eq_false (by omega)
    have HF:Hid (itsE d=0):=qwp hs (fun i hi=>hall.out i (by omega))
    go_wp2
    go_ret
    exact ⟨qaf HF.out.symm,HB.out⟩
 ·have hs':decide ((20:Int) < (d.size:Int))=true:=decide_eq_true (by omega)
  have HF:Hid (itsE d=2):=qwq hs
  go_enter Tryz.func130,Tryz.ntmps130
  go_wp2
  go_ret
  exact ⟨qaf HF.out.symm,Below.refl _ _⟩
set_option maxHeartbeats 16000000 in
theorem rSes_any (A:Option Addr) (c:Nat) (d:Array SS) (w:World) (h:RdK qcw 3 w.heap.size w A d) :
 Calls Tryz.prog 131 #[.slice A d.size c] w fun e w'=>e=.returned (.int .i64 (sesE d))∧Below w.heap.size w w':=by
 have HR:=hI h
 clear h
 by_cases hs:d.size≤20
 ·have hs':decide ((20:Int) < (d.size:Int))=false:=decide_eq_false (by omega)
  go_enter Tryz.func131,Tryz.ntmps131
  go_wp2
  go_loopw [3] (fun i wr=>∃ k:Nat,i=.int .i64 k∧k≤d.size∧Hid (∀ j,j < k→seB d[j]! = true∧(0 < j→d[j - 1]!.cl < d[j]!.cl))∧Hid (Below w.heap.size w wr)) (fun i _=>d.size - (intOf i).toNat)
  case atStart=>exact ⟨0,rfl,Nat.zero_le _,hI (fun j hj=>absurd hj (by omega)),hI (Below.refl _ _)⟩
  case round =>
   obtain ⟨k,rfl,hk,hall,HB⟩:=hrel
   by_cases hlt:k < d.size
   ·have kz:(k:Int) < (d.size:Int):=by omega
    obtain ⟨b,off,rfl,hbl0,f⟩:=(HR.out.below HB.out).at_ (i:=k) (by omega)
    have hbl:=Nat.lt_of_lt_of_le hbl0 HB.out.size
    clear hbl0
    have e0:=f 0 (by omega)
    have e1:=f 1 (by omega)
    have e2:=f 2 (by omega)
    have HPV:Hid (0 < k→wr.cell? ⟨b,off + (k - 1) * 3,none⟩=some (.int .i64 d[k - 1]!.cl)):=fun h0=>by
     obtain ⟨b2,off2,e2,_,f2⟩:=(HR.out.below HB.out).at_ (i:=k - 1) (by omega)
     injection e2 with e2
     injection e2 with eb eo
     subst eb eo
     have:=f2 0 (by omega)
     simp only [qcw,Nat.add_zero,List.getElem!_cons_zero] at this
     exact this
    have HNO:Hid (¬ (seB d[k]! = true∧(0 < k→d[k - 1]!.cl < d[k]!.cl))→sesE d=2):=sesE_no k hlt
    have HJ:Hid (seB d[k]! = true∧(0 < k→d[k - 1]!.cl < d[k]!.cl)→∀ j,j < k + 1→seB d[j]! = true∧(0 < j→d[j - 1]!.cl < d[j]!.cl)):=fun h j hj=>by
     rcases Nat.lt_or_ge j k with h' | h'
     ·exact hall.out j h'
     ·obtain rfl:j=k:=by omega
      exact h
    generalize d[k - 1]!.cl=pid at HPV HNO HJ
    obtain ⟨x,hx⟩:∃ x,d[k]! = x:=⟨_,rfl⟩
    rw [hx] at e0 e1 e2 HNO HJ
    clear f hx
    have HMY:Hid (seB x=true↔_):=hI (by unfold seB;exact decide_eq_true_iff)
    simp only [Nat.add_zero,qcw,List.getElem!_cons_zero,List.getElem!_cons_succ] at e0 e1 e2
    go_wp2
    obtain ⟨w1,hw1⟩:∃ W,W=wr:=⟨_,rfl⟩
    rw [←hw1] at HPV hbl HB e0 e1 e2 ⊢
    clear hw1
    have HBX:=HB
    by_cases h0:x.cl < 1
    ·have g0:decide (x.cl < 1)=true:=decide_eq_true (by omega)
     have HF:Hid (sesE d=2):=HNO.out (fun h=>by have:=HMY.out.1 h.1;omega)
     go_quiet (fail)
     have HW:=hI (qax HBX.out nq)
     clear e0 e1 e2
     go_wp2
     go_ret
     exact ⟨qaf HF.out.symm,HW.out⟩
    have g0:decide (x.cl < 1)=false:=decide_eq_false (by omega)
    by_cases h1:99999 < x.cl
    ·have g1:decide (99999 < x.cl)=true:=decide_eq_true (by omega)
     have HF:Hid (sesE d=2):=HNO.out (fun h=>by have:=HMY.out.1 h.1;omega)
     go_quiet (fail)
     have HW:=hI (qax HBX.out nq)
     clear e0 e1 e2
     go_wp2
     go_ret
     exact ⟨qaf HF.out.symm,HW.out⟩
    have g1:decide (99999 < x.cl)=false:=decide_eq_false (by omega)
    by_cases h2:x.seq < 1
    ·have g2:decide (x.seq < 1)=true:=decide_eq_true (by omega)
     have HF:Hid (sesE d=2):=HNO.out (fun h=>by have:=HMY.out.1 h.1;omega)
     go_quiet (fail)
     have HW:=hI (qax HBX.out nq)
     clear e0 e1 e2
     go_wp2
     go_ret
     exact ⟨qaf HF.out.symm,HW.out⟩
    have g2:decide (x.seq < 1)=false:=decide_eq_false (by omega)
    by_cases h3:99999 < x.seq
    ·have g3:decide (99999 < x.seq)=true:=decide_eq_true (by omega)
     have HF:Hid (sesE d=2):=HNO.out (fun h=>by have:=HMY.out.1 h.1;omega)
     go_quiet (fail)
     have HW:=hI (qax HBX.out nq)
     clear e0 e1 e2
     go_wp2
     go_ret
     exact ⟨qaf HF.out.symm,HW.out⟩
    have g3:decide (99999 < x.seq)=false:=decide_eq_false (by omega)
    by_cases h4:300 < x.rep.size
    ·have g4:decide ((300:Int) < (x.rep.size:Int))=true:=decide_eq_true (by omega)
     have HF:Hid (sesE d=2):=HNO.out (fun h=>by have:=HMY.out.1 h.1;omega)
     go_quiet (fail)
     have HW:=hI (qax HBX.out nq)
     clear e0 e1 e2
     go_wp2
     go_ret
     exact ⟨qaf HF.out.symm,HW.out⟩
    have g4:decide ((300:Int) < (x.rep.size:Int))=false:=decide_eq_false (by omega)
    have hmy:seB x=true:=HMY.out.2 (by omega)
    by_cases h0:0 < k
    ·have h0':decide ((0:Int) < (k:Int))=true:=decide_eq_true (by omega)
     obtain ⟨k',hk'⟩:∃ k',k' + 1=k:=⟨k - 1,by omega⟩
     have hsub:(k:Int) - 1=(k':Int):=by omega
     have kz':(k':Int) < (d.size:Int):=by omega
     have pv:=HPV.out h0
     rw [show k - 1=k' by omega] at pv
     clear HPV
     by_cases hle:x.cl≤pid
     ·have hle':decide (x.cl≤pid)=true:=decide_eq_true hle
      have HF:Hid (sesE d=2):=HNO.out (fun h=>by have:=h.2 h0;omega)
      clear hle hk'
      go_quiet (fail)
      have HW:=hI (qax HBX.out nq)
      clear e0 e1 e2
      go_wp2
      go_ret
      exact ⟨qaf HF.out.symm,HW.out⟩
     ·have hle':decide (x.cl≤pid)=false:=decide_eq_false hle
      have HT:Hid (seB x=true∧(0 < k→pid < x.cl)):=⟨hmy,fun _=>by omega⟩
      clear hle hk'
      go_quiet (fail)
      have HW:=hI (qax HBX.out nq)
      clear e0 e1 e2
      go_wp2
      go_roundw
      case rel=>exact ⟨k + 1,by go_num,by omega,hI (HJ.out HT.out),HW⟩
      case measure=>simp [intOf];omega
    ·have h0':decide ((0:Int) < (k:Int))=false:=decide_eq_false (by omega)
     have HT:Hid (seB x=true∧(0 < k→pid < x.cl)):=⟨hmy,fun h=>absurd h h0⟩
     clear HPV
     go_quiet (fail)
     have HW:=hI (qax HBX.out nq)
     clear e0 e1 e2
     go_wp2
     go_roundw
     case rel=>exact ⟨k + 1,by go_num,by omega,hI (HJ.out HT.out),HW⟩
     case measure=>simp [intOf];omega
   ·have hlt':decide ((k:Int) < (d.size:Int))=false:=decide_eq_false (by omega)
    have HF:Hid (sesE d=0):=qwr hs (fun i hi=>hall.out i (by omega))
    go_wp2
    go_ret
    exact ⟨qaf HF.out.symm,HB.out⟩
 ·have hs':decide ((20:Int) < (d.size:Int))=true:=decide_eq_true (by omega)
  have HF:Hid (sesE d=2):=qws hs
  go_enter Tryz.func131,Tryz.ntmps131
  go_wp2
  go_ret
  exact ⟨qaf HF.out.symm,Below.refl _ _⟩
def stoE (z1:Array IT) (z2:Array SS):Int:=if (itsB z1 && sesB z2)=true then 0 else 2
theorem stoE_of {z1:Array IT} {z2:Array SS} (g1 g2:Bool) (h1:itsB z1=g1) (h2:sesB z2=g2):stoE z1 z2=if (g1 && g2)=true then 0 else 2:=by unfold stoE;rw [h1,h2]
theorem qqj (x1:RW IT) (x2:RW SS) (w:World) (h1:RdW qdc 4 w x1) (h2:RdW qcw 3 w x2) :
 Calls Tryz.prog 55 #[.agg #[.slice x1.A x1.z.size x1.c,.slice x2.A x2.z.size x2.c]] w fun e w'=>e=.returned (.int .i64 (stoE x1.z x2.z))∧Below w.heap.size w w':=by
 obtain ⟨A1,k1,z1⟩:=x1
 obtain ⟨A2,k2,z2⟩:=x2
 have H1:Hid (∀ W,Below w.heap.size w W→Calls Tryz.prog 116 #[.slice A1 z1.size k1] W fun e w'=>e=.returned (.int .i64 (itsE z1))∧Below W.heap.size W w'):=fun W hb=>qrw A1 k1 z1 W (h1.below hb).rd
 have H2:Hid (∀ W,Below w.heap.size w W→Calls Tryz.prog 117 #[.slice A2 z2.size k2] W fun e w'=>e=.returned (.int .i64 (sesE z2))∧Below W.heap.size W w'):=fun W hb=>qrx A2 k2 z2 W (h2.below hb).rd
 have HE:=hI (fun g1 g2=>@stoE_of z1 z2 g1 g2)
 simp only
 clear h1 h2
 have HX:=hI (BoxR.init w #[.slice A1 z1.size k1,.slice A2 z2.size k2] 33)
 obtain ⟨g1,hg1⟩:∃ g,itsB z1=g:=⟨_,rfl⟩
 obtain ⟨g2,hg2⟩:∃ g,sesB z2=g:=⟨_,rfl⟩
 have e1:itsE z1=if g1=true then 0 else 2:=by unfold itsE;rw [hg1]
 have e2:sesE z2=if g2=true then 0 else 2:=by unfold sesE;rw [hg2]
 have e3:=HE.out g1 g2 hg1 hg2
 rw [e1] at H1
 rw [e2] at H2
 rw [e3]
 clear e1 e2 e3 HE hg1 hg2
 cases g1 <;> cases g2
 all_goals
  simp only [if_true,Bool.false_eq_true,if_false,Bool.and_self,Bool.and_true,Bool.and_false] at H1 H2 ⊢
  go_enter Tryz.func55,Tryz.ntmps55
  go_wp2_with (first
   | (go_at_call 116;refine (H1.out _ HX.out.b).mono ?_;rintro _ w1 ⟨rfl,hb⟩;have HX:=hI (HX.out.next hb);clear hb;have d1:=HX.out.at_ 1 (v:=.slice A2 z2.size k2) rfl)
   | (go_at_call 117;refine (H2.out _ HX.out.b).mono ?_;rintro _ w2 ⟨rfl,hb⟩;have HX:=hI (HX.out.next hb);clear hb))
  go_ret
  exact ⟨rfl,HX.out.b⟩
theorem rSvc_any (x1:RW IT) (x2:RW SS) (w:World) (h1:RdW qdc 4 w x1) (h2:RdW qcw 3 w x2) :
 Calls Tryz.prog 72 #[.agg #[.slice x1.A x1.z.size x1.c,.slice x2.A x2.z.size x2.c]] w fun e w'=>e=.returned (.int .i64 (stoE x1.z x2.z))∧Below w.heap.size w w':=by
 obtain ⟨A1,k1,z1⟩:=x1
 obtain ⟨A2,k2,z2⟩:=x2
 have H1:Hid (∀ W,Below w.heap.size w W→Calls Tryz.prog 130 #[.slice A1 z1.size k1] W fun e w'=>e=.returned (.int .i64 (itsE z1))∧Below W.heap.size W w'):=fun W hb=>rStk_any A1 k1 z1 W (h1.below hb).rd
 have H2:Hid (∀ W,Below w.heap.size w W→Calls Tryz.prog 131 #[.slice A2 z2.size k2] W fun e w'=>e=.returned (.int .i64 (sesE z2))∧Below W.heap.size W w'):=fun W hb=>rSes_any A2 k2 z2 W (h2.below hb).rd
 have HE:=hI (fun g1 g2=>@stoE_of z1 z2 g1 g2)
 simp only
 clear h1 h2
 have HX:=hI (BoxR.init w #[.slice A1 z1.size k1,.slice A2 z2.size k2] 33)
 obtain ⟨g1,hg1⟩:∃ g,itsB z1=g:=⟨_,rfl⟩
 obtain ⟨g2,hg2⟩:∃ g,sesB z2=g:=⟨_,rfl⟩
 have e1:itsE z1=if g1=true then 0 else 2:=by unfold itsE;rw [hg1]
 have e2:sesE z2=if g2=true then 0 else 2:=by unfold sesE;rw [hg2]
 have e3:=HE.out g1 g2 hg1 hg2
 rw [e1] at H1
 rw [e2] at H2
 rw [e3]
 clear e1 e2 e3 HE hg1 hg2
 cases g1 <;> cases g2
 all_goals
  simp only [if_true,Bool.false_eq_true,if_false,Bool.and_self,Bool.and_true,Bool.and_false] at H1 H2 ⊢
  go_enter Tryz.func72,Tryz.ntmps72
  go_wp2_with (first
   | (go_at_call 130;refine (H1.out _ HX.out.b).mono ?_;rintro _ w1 ⟨rfl,hb⟩;have HX:=hI (HX.out.next hb);clear hb;have d1:=HX.out.at_ 1 (v:=.slice A2 z2.size k2) rfl)
   | (go_at_call 131;refine (H2.out _ HX.out.b).mono ?_;rintro _ w2 ⟨rfl,hb⟩;have HX:=hI (HX.out.next hb);clear hb))
  go_ret
  exact ⟨rfl,HX.out.b⟩
end Go.Proofs.YtnmojicfmcbgmaaGreatDoor
namespace Go.Proofs.YtnmojicfmcbgmaaGreatDoor
open Go.RowKit Go.Sort Go.Lib
set_option maxRecDepth 100000
attribute [local go_sem ↓] qbc qba
attribute [local go_sem] qbt qci
def repW (r:RP):Int:=if chkW r=true then 0 else 2
set_option maxHeartbeats 4000000 in
theorem qke (r:RP) (w:World) (h:RdP w r) (hf:FewC r) :
 Calls Tryz.prog 16 #[.agg (encP r).toArray] w fun e w'=>e=.returned (.int .i64 (repW r))∧Below w.heap.size w w':=by
 obtain ⟨g1,hg1⟩:∃ g,chkR r=g:=⟨_,rfl⟩
 obtain ⟨g2,hg2⟩:∃ g,(itsB r.it.z && sesB r.ss.z)=g:=⟨_,rfl⟩
 have HV:Hid (repW r=if (g1 && g2)=true then 0 else 2):=by show _=_;unfold repW chkW;rw [hg1,hg2]
 have HC:Hid (∀ W,Below w.heap.size w W→Calls Tryz.prog 54 #[.agg (encP r).toArray] W fun e w'=>e=.returned (.int .i64 (if g1=true then 0 else 2))∧Below W.heap.size W w'):=fun W hb=>by
  have:=qts r W (h.below hb) hf
  unfold repE at this
  rwa [hg1] at this
 have HS:Hid (∀ W,Below w.heap.size w W→Calls Tryz.prog 55 #[.agg #[.slice r.it.A r.it.z.size r.it.c,.slice r.ss.A r.ss.z.size r.ss.c]] W fun e w'=>e=.returned (.int .i64 (if g2=true then 0 else 2))∧Below W.heap.size W w'):=fun W hb=>by
  have:=qqj r.it r.ss W (h.it.below hb) (h.ss.below hb)
  unfold stoE at this
  rwa [hg2] at this
 obtain ⟨cs,hcs⟩:∃ cs,cs=(encP r).toArray:=⟨_,rfl⟩
 have HI:cs.size=18:=by rw [hcs];rfl
 have q16:cs[16]?=some (.slice r.it.A r.it.z.size r.it.c):=by rw [hcs];rfl
 have q17:cs[17]?=some (.slice r.ss.A r.ss.z.size r.ss.c):=by rw [hcs];rfl
 have Q16:=hI q16
 have Q17:=hI q17
 rw [←hcs] at HC
 clear hg1 hg2 h hf q16 q17
 have hgoal:∀ y:Array Value,cs=y→Calls Tryz.prog 16 #[.agg y] w fun e w'=>e=.returned (.int .i64 (repW r))∧Below w.heap.size w w':=by
  rintro _ rfl
  simp only [encP] at hcs
  have HX:=hI (BoxR.init w cs 35)
  have x1:=HX.out.box HI
  have x2:=HX.out.rowAt
  rw [HV.out]
  cases g1 <;> cases g2
  all_goals
   simp only [if_true,Bool.false_eq_true,if_false,Bool.and_self,Bool.and_true,Bool.and_false] at HC HS ⊢
   rw [hcs]
   go_enter Tryz.func16,Tryz.ntmps16
   rw [←hcs]
   clear hcs
   go_wp2_with (first
    | (go_at_call 54;refine (HC.out _ HX.out.b).mono ?_;rintro _ w1 ⟨rfl,hb⟩;have HX:=hI (HX.out.next hb);clear hb x1 x2;have d1:=HX.out.at_ 16 Q16.out;have d2:=HX.out.at_ 17 Q17.out)
    | (go_at_call 55;refine (HS.out _ HX.out.b).mono ?_;rintro _ w2 ⟨rfl,hb⟩;have HX:=hI (HX.out.next hb);clear hb))
   go_ret
   exact ⟨rfl,HX.out.b⟩
 exact hgoal _ hcs
set_option maxHeartbeats 4000000 in
theorem quz (r:RP) (w:World) (h:RdP w r) (hf:FewC r) :
 Calls Tryz.prog 30 #[.agg (encP r).toArray] w fun e w'=>e=.returned (.int .i64 (repW r))∧Below w.heap.size w w':=by
 obtain ⟨g1,hg1⟩:∃ g,chkR r=g:=⟨_,rfl⟩
 obtain ⟨g2,hg2⟩:∃ g,(itsB r.it.z && sesB r.ss.z)=g:=⟨_,rfl⟩
 have HV:Hid (repW r=if (g1 && g2)=true then 0 else 2):=by show _=_;unfold repW chkW;rw [hg1,hg2]
 have HC:Hid (∀ W,Below w.heap.size w W→Calls Tryz.prog 71 #[.agg (encP r).toArray] W fun e w'=>e=.returned (.int .i64 (if g1=true then 0 else 2))∧Below W.heap.size W w'):=fun W hb=>by
  have:=qru r W (h.below hb) hf
  unfold repE at this
  rwa [hg1] at this
 have HS:Hid (∀ W,Below w.heap.size w W→Calls Tryz.prog 72 #[.agg #[.slice r.it.A r.it.z.size r.it.c,.slice r.ss.A r.ss.z.size r.ss.c]] W fun e w'=>e=.returned (.int .i64 (if g2=true then 0 else 2))∧Below W.heap.size W w'):=fun W hb=>by
  have:=rSvc_any r.it r.ss W (h.it.below hb) (h.ss.below hb)
  unfold stoE at this
  rwa [hg2] at this
 obtain ⟨cs,hcs⟩:∃ cs,cs=(encP r).toArray:=⟨_,rfl⟩
 have HI:cs.size=18:=by rw [hcs];rfl
 have q16:cs[16]?=some (.slice r.it.A r.it.z.size r.it.c):=by rw [hcs];rfl
 have q17:cs[17]?=some (.slice r.ss.A r.ss.z.size r.ss.c):=by rw [hcs];rfl
 have Q16:=hI q16
 have Q17:=hI q17
 rw [←hcs] at HC
 clear hg1 hg2 h hf q16 q17
 have hgoal:∀ y:Array Value,cs=y→Calls Tryz.prog 30 #[.agg y] w fun e w'=>e=.returned (.int .i64 (repW r))∧Below w.heap.size w w':=by
  rintro _ rfl
  simp only [encP] at hcs
  have HX:=hI (BoxR.init w cs 35)
  have x1:=HX.out.box HI
  have x2:=HX.out.rowAt
  rw [HV.out]
  cases g1 <;> cases g2
  all_goals
   simp only [if_true,Bool.false_eq_true,if_false,Bool.and_self,Bool.and_true,Bool.and_false] at HC HS ⊢
   rw [hcs]
   go_enter Tryz.func30,Tryz.ntmps30
   rw [←hcs]
   clear hcs
   go_wp2_with (first
    | (go_at_call 71;refine (HC.out _ HX.out.b).mono ?_;rintro _ w1 ⟨rfl,hb⟩;have HX:=hI (HX.out.next hb);clear hb x1 x2;have d1:=HX.out.at_ 16 Q16.out;have d2:=HX.out.at_ 17 Q17.out)
    | (go_at_call 72;refine (HS.out _ HX.out.b).mono ?_;rintro _ w2 ⟨rfl,hb⟩;have HX:=hI (HX.out.next hb);clear hb))
   go_ret
   exact ⟨rfl,HX.out.b⟩
 exact hgoal _ hcs
theorem qsm (x1 y1:RW IT) (x2 y2:RW SS) (w:World) (h1:RdW qdc 4 w x1) (h2:RdW qcw 3 w x2) (h3:RdW qdc 4 w y1) (h4:RdW qcw 3 w y2) (s1:x1.z.size≤1000) (s2:x2.z.size≤1000) (s3:y1.z.size≤1000) (s4:y2.z.size≤1000) :
 Calls Tryz.prog 51 #[.agg #[.slice x1.A x1.z.size x1.c,.slice x2.A x2.z.size x2.c],.agg #[.slice y1.A y1.z.size y1.c,.slice y2.A y2.z.size y2.c]] w fun e w'=>e=.returned (.bool (decide (x1.z=y1.z) && decide (x2.z=y2.z)))∧Below w.heap.size w w':=by
 obtain ⟨A1,k1,z1⟩:=x1
 obtain ⟨A2,k2,z2⟩:=x2
 obtain ⟨A3,k3,z3⟩:=y1
 obtain ⟨A4,k4,z4⟩:=y2
 have H1:Hid (∀ W,Below w.heap.size w W→Calls Tryz.prog 108 #[.slice A1 z1.size k1,.slice A3 z3.size k3] W fun e w'=>e=.returned (.bool (decide (z1=z3)))∧Below W.heap.size W w'):=fun W hb=>qua A1 A3 k1 k3 z1 z3 _ _ W (h1.below hb).rd (h3.below hb).rd (by simp only at s1;omega) (by simp only at s3;omega)
 have H2:Hid (∀ W,Below w.heap.size w W→Calls Tryz.prog 109 #[.slice A2 z2.size k2,.slice A4 z4.size k4] W fun e w'=>e=.returned (.bool (decide (z2=z4)))∧Below W.heap.size W w'):=fun W hb=>qub A2 A4 k2 k4 z2 z4 _ _ W (h2.below hb).rd (h4.below hb).rd (by simp only at s2;omega) (by simp only at s4;omega)
 simp only
 generalize decide (z1=z3)=g1 at H1 ⊢
 generalize decide (z2=z4)=g2 at H2 ⊢
 clear h1 h2 h3 h4 s1 s2 s3 s4
 have HX:=hI (BoxG.fst w #[.slice A1 z1.size k1,.slice A2 z2.size k2] #[.slice A3 z3.size k3,.slice A4 z4.size k4] 33 33)
 have HY:=hI (BoxG.snd w #[.slice A1 z1.size k1,.slice A2 z2.size k2] #[.slice A3 z3.size k3,.slice A4 z4.size k4] 33 33)
 cases g1
 all_goals
  go_enter Tryz.func51,Tryz.ntmps51
  go_wp2_with (first
   | (go_at_call 108;refine (H1.out _ HX.out.b).mono ?_;rintro _ w1 ⟨rfl,hb⟩;have HX:=hI (HX.out.next hb);have HY:=hI (HY.out.next hb);clear hb;have d1:=HX.out.at_ 1 (v:=.slice A2 z2.size k2) rfl;have d2:=HY.out.at_ 1 (v:=.slice A4 z4.size k4) rfl)
   | (go_at_call 109;refine (H2.out _ HX.out.b).mono ?_;rintro _ w2 ⟨rfl,hb⟩;have HX:=hI (HX.out.next hb);clear hb))
  go_ret
  exact ⟨rfl,HX.out.b⟩
set_option maxHeartbeats 8000000 in
theorem qnd (a b:RP) (w:World) (ha:RdP w a) (hb:RdP w b) (fa:FewC a) (fb:FewC b) (s1:a.it.z.size≤1000) (s2:a.ss.z.size≤1000) (s3:b.it.z.size≤1000) (s4:b.ss.z.size≤1000) :
 Calls Tryz.prog 14 #[.agg (encP a).toArray,.agg (encP b).toArray] w fun e w'=>e=.returned (.bool (qkb a b))∧Below w.heap.size w w':=by
 have H1:Hid (∀ W,Below w.heap.size w W→Calls Tryz.prog 50 #[.agg (encP a).toArray,.agg (encP b).toArray] W fun e w'=>e=.returned (.bool (qha a b))∧Below W.heap.size W w'):=fun W h=>qtt a b W (ha.below h) (hb.below h) fa fb
 have H2:Hid (∀ W,Below w.heap.size w W→Calls Tryz.prog 51 #[.agg #[.slice a.it.A a.it.z.size a.it.c,.slice a.ss.A a.ss.z.size a.ss.c],.agg #[.slice b.it.A b.it.z.size b.it.c,.slice b.ss.A b.ss.z.size b.ss.c]] W fun e w'=>e=.returned (.bool (decide (a.it.z=b.it.z) && decide (a.ss.z=b.ss.z)))∧Below W.heap.size W w'):=fun W h=>qsm a.it b.it a.ss b.ss W (ha.it.below h) (ha.ss.below h) (hb.it.below h) (hb.ss.below h) s1 s2 s3 s4
 obtain ⟨g1,hg1⟩:∃ g,qha a b=g:=⟨_,rfl⟩
 obtain ⟨g2,hg2⟩:∃ g,(decide (a.it.z=b.it.z) && decide (a.ss.z=b.ss.z))=g:=⟨_,rfl⟩
 have HV:Hid (qkb a b=(g1 && g2)):=by show _=_;unfold qkb;rw [hg1,hg2]
 rw [hg1] at H1
 rw [hg2] at H2
 obtain ⟨ca,hca⟩:∃ cs,cs=(encP a).toArray:=⟨_,rfl⟩
 obtain ⟨cb,hcb⟩:∃ cs,cs=(encP b).toArray:=⟨_,rfl⟩
 have HIa:ca.size=18:=by rw [hca];rfl
 have HIb:cb.size=18:=by rw [hcb];rfl
 have a16:ca[16]?=some (.slice a.it.A a.it.z.size a.it.c):=by rw [hca];rfl
 have a17:ca[17]?=some (.slice a.ss.A a.ss.z.size a.ss.c):=by rw [hca];rfl
 have b16:cb[16]?=some (.slice b.it.A b.it.z.size b.it.c):=by rw [hcb];rfl
 have b17:cb[17]?=some (.slice b.ss.A b.ss.z.size b.ss.c):=by rw [hcb];rfl
 have A16:=hI a16
 have A17:=hI a17
 have B16:=hI b16
 have B17:=hI b17
 rw [←hca,←hcb] at H1
 clear hg1 hg2 ha hb fa fb s1 s2 s3 s4 a16 a17 b16 b17
 have hgoal:∀ x y:Array Value,ca=x→cb=y→Calls Tryz.prog 14 #[.agg x,.agg y] w fun e w'=>e=.returned (.bool (qkb a b))∧Below w.heap.size w w':=by
  rintro _ _ rfl rfl
  simp only [encP] at hca hcb
  have HX:=hI (BoxG.fst w ca cb 35 35)
  have HY:=hI (BoxG.snd w ca cb 35 35)
  have x1:=qav HX.out.row HIa
  have x2:=qbh HX.out.row
  have y1:=qav HY.out.row HIb
  have y2:=qbh HY.out.row
  rw [HV.out]
  cases g1
  all_goals
   rw [hca,hcb]
   go_enter Tryz.func14,Tryz.ntmps14
   rw [←hca,←hcb]
   clear hca hcb
   go_wp2_with (first
    | (go_at_call 50;refine (H1.out _ HX.out.b).mono ?_;rintro _ w1 ⟨rfl,hb⟩;have HX:=hI (HX.out.next hb);have HY:=hI (HY.out.next hb);clear hb x1 x2 y1 y2;have d1:=HX.out.at_ 16 A16.out;have d2:=HX.out.at_ 17 A17.out;have d3:=HY.out.at_ 16 B16.out;have d4:=HY.out.at_ 17 B17.out)
    | (go_at_call 51;refine (H2.out _ HX.out.b).mono ?_;rintro _ w2 ⟨rfl,hb⟩;have HX:=hI (HX.out.next hb);clear hb))
   go_ret
   exact ⟨rfl,HX.out.b⟩
 exact hgoal _ _ hca hcb
def qlh (z:Array SS):Bool:=decide (z.size≤60) && (List.range z.size).all fun i=>decide (z[i]!.rep.size≤1000)
theorem qli {z:Array SS}:qlh z=true↔z.size≤60∧∀ i,i < z.size→z[i]!.rep.size≤1000:=by
 unfold qlh
 rw [Bool.and_eq_true,decide_eq_true_eq,List.all_eq_true]
 constructor
 ·rintro ⟨h,g⟩;exact ⟨h,fun i hi=>of_decide_eq_true (g i (List.mem_range.2 hi))⟩
 ·rintro ⟨h,g⟩;exact ⟨h,fun i hi=>decide_eq_true (g i (List.mem_range.1 hi))⟩
theorem few32_any (A:Option Addr) (c:Nat) (d:Array SS) (w:World) (h:RdK qcw 3 w.heap.size w A d) :
 Calls Tryz.prog 59 #[.slice A d.size c] w fun e w'=>e=.returned (.bool (qlh d))∧w=w':=by
 by_cases hs:d.size≤60
 ·have hs':decide ((60:Int) < (d.size:Int))=false:=decide_eq_false (by omega)
  go_enter Tryz.func59,Tryz.ntmps59
  go_wp2
  go_loopw [3] (fun i wr=>∃ k:Nat,i=.int .i64 k∧k≤d.size∧Hid (∀ j,j < k→d[j]!.rep.size≤1000)∧wr=w) (fun i _=>d.size - (intOf i).toNat)
  case atStart=>exact ⟨0,rfl,Nat.zero_le _,hI (fun j hj=>absurd hj (by omega)),rfl⟩
  case round =>
   obtain ⟨k,rfl,hk,hall,rfl⟩:=hrel
   by_cases hlt:k < d.size
   ·have kz:(k:Int) < (d.size:Int):=by omega
    obtain ⟨b,off,rfl,hbl,f⟩:=h.at_ (i:=k) hlt
    have e2:=f 2 (by omega)
    have HNO:Hid (1000 < d[k]!.rep.size→qlh d=false):=fun hg=>Bool.eq_false_iff.2 fun h=>by have:=(qli.1 h).2 k hlt;omega
    have HJ:Hid (d[k]!.rep.size≤1000→∀ j,j < k + 1→d[j]!.rep.size≤1000):=fun hg j hj=>by
     rcases Nat.lt_or_ge j k with h' | h'
     ·exact hall.out j h'
     ·obtain rfl:j=k:=by omega
      exact hg
    generalize d[k]! = x at e2 HNO HJ
    clear f
    simp only [qcw,List.getElem!_cons_zero,List.getElem!_cons_succ] at e2
    by_cases hg:1000 < x.rep.size
    ·have hg':decide ((1000:Int) < (x.rep.size:Int))=true:=decide_eq_true (by omega)
     have HF:=hI (HNO.out hg)
     clear hg
     go_wp2
     go_ret
     exact ⟨qag HF.out.symm,rfl⟩
    ·have hg':decide ((1000:Int) < (x.rep.size:Int))=false:=decide_eq_false (by omega)
     have HT:=hI (HJ.out (by omega))
     clear hg
     go_wp2
     go_roundw
     case rel=>exact ⟨k + 1,by go_num,by omega,HT,trivial⟩
     case measure=>simp [intOf];omega
   ·have hlt':decide ((k:Int) < (d.size:Int))=false:=decide_eq_false (by omega)
    have HF:Hid (qlh d=true):=qli.2 ⟨hs,fun i hi=>hall.out i (by omega)⟩
    go_wp2
    go_ret
    exact ⟨qag HF.out.symm,rfl⟩
 ·have hs':decide ((60:Int) < (d.size:Int))=true:=decide_eq_true (by omega)
  have HF:Hid (qlh d=false):=Bool.eq_false_iff.2 fun h=>hs (qli.1 h).1
  go_enter Tryz.func59,Tryz.ntmps59
  go_wp2
  go_ret
  exact ⟨qag HF.out.symm,rfl⟩
def qlj (x1:Array IT) (x2:Array SS):Bool:=decide (x1.size≤60) && qlh x2
theorem few33_any (x1:RW IT) (x2:RW SS) (w:World) (h2:RdW qcw 3 w x2) :
 Calls Tryz.prog 18 #[.agg #[.slice x1.A x1.z.size x1.c,.slice x2.A x2.z.size x2.c]] w fun e w'=>e=.returned (.bool (qlj x1.z x2.z))∧Below w.heap.size w w':=by
 obtain ⟨A1,k1,z1⟩:=x1
 obtain ⟨A2,k2,z2⟩:=x2
 have H2:Hid (∀ W,Below w.heap.size w W→Calls Tryz.prog 59 #[.slice A2 z2.size k2] W fun e w'=>e=.returned (.bool (qlh z2))∧W=w'):=fun W hb=>few32_any A2 k2 z2 W (h2.below hb).rd
 have HX:=hI (BoxR.init w #[.slice A1 z1.size k1,.slice A2 z2.size k2] 33)
 have HV:Hid (qlj z1 z2=(decide (z1.size≤60) && qlh z2)):=rfl
 simp only
 generalize qlh z2=g2 at H2 HV
 rw [HV.out]
 clear h2
 by_cases h1:z1.size≤60
 ·have h1':decide ((z1.size:Int)≤60)=true:=decide_eq_true (by omega)
  rw [decide_eq_true h1,Bool.true_and]
  clear h1
  go_enter Tryz.func18,Tryz.ntmps18
  go_wp2_with (go_at_call 59;refine (H2.out _ HX.out.b).mono ?_;rintro _ _ ⟨rfl,rfl⟩)
  go_ret
  exact ⟨rfl,HX.out.b⟩
 ·have h1':decide ((z1.size:Int)≤60)=false:=decide_eq_false (by omega)
  rw [decide_eq_false h1,Bool.false_and]
  clear h1
  go_enter Tryz.func18,Tryz.ntmps18
  go_wp2
  go_ret
  exact ⟨rfl,HX.out.b⟩
def fewW (r:RP):Bool:=fewR r && qlj r.it.z r.ss.z
set_option maxHeartbeats 4000000 in
theorem few34_any (r:RP) (w:World) (h:RdP w r) :
 Calls Tryz.prog 6 #[.agg (encP r).toArray] w fun e w'=>e=.returned (.bool (fewW r))∧Below w.heap.size w w':=by
 have H1:Hid (∀ W,Below w.heap.size w W→Calls Tryz.prog 17 #[.agg (encP r).toArray] W fun e w'=>e=.returned (.bool (fewR r))∧Below W.heap.size W w'):=fun W hb=>few25_any r W (h.below hb)
 have H2:Hid (∀ W,Below w.heap.size w W→Calls Tryz.prog 18 #[.agg #[.slice r.it.A r.it.z.size r.it.c,.slice r.ss.A r.ss.z.size r.ss.c]] W fun e w'=>e=.returned (.bool (qlj r.it.z r.ss.z))∧Below W.heap.size W w'):=fun W hb=>few33_any r.it r.ss W (h.ss.below hb)
 have HV:Hid (fewW r=(fewR r && qlj r.it.z r.ss.z)):=rfl
 generalize fewR r=g1 at H1 HV
 generalize qlj r.it.z r.ss.z=g2 at H2 HV
 obtain ⟨cs,hcs⟩:∃ cs,cs=(encP r).toArray:=⟨_,rfl⟩
 have HI:cs.size=18:=by rw [hcs];rfl
 have q16:cs[16]?=some (.slice r.it.A r.it.z.size r.it.c):=by rw [hcs];rfl
 have q17:cs[17]?=some (.slice r.ss.A r.ss.z.size r.ss.c):=by rw [hcs];rfl
 have Q16:=hI q16
 have Q17:=hI q17
 rw [←hcs] at H1
 clear h q16 q17
 have hgoal:∀ y:Array Value,cs=y→Calls Tryz.prog 6 #[.agg y] w fun e w'=>e=.returned (.bool (fewW r))∧Below w.heap.size w w':=by
  rintro _ rfl
  simp only [encP] at hcs
  have HX:=hI (BoxR.init w cs 35)
  have x1:=HX.out.box HI
  have x2:=HX.out.rowAt
  rw [HV.out]
  cases g1
  all_goals
   rw [hcs]
   go_enter Tryz.func6,Tryz.ntmps6
   rw [←hcs]
   clear hcs
   go_wp2_with (first
    | (go_at_call 17;refine (H1.out _ HX.out.b).mono ?_;rintro _ w1 ⟨rfl,hb⟩;have HX:=hI (HX.out.next hb);clear hb x1 x2;have d1:=HX.out.at_ 16 Q16.out;have d2:=HX.out.at_ 17 Q17.out)
    | (go_at_call 18;refine (H2.out _ HX.out.b).mono ?_;rintro _ w2 ⟨rfl,hb⟩;have HX:=hI (HX.out.next hb);clear hb))
   go_ret
   exact ⟨rfl,HX.out.b⟩
 exact hgoal _ hcs
end Go.Proofs.YtnmojicfmcbgmaaGreatDoor
namespace Go.Proofs.YtnmojicfmcbgmaaGreatDoor
open Go.RowKit Go.Sort Go.Lib
set_option maxRecDepth 100000
def farK (r:RP) (k:Nat) (m:Int):Prop:=500 < m↔(500 < r.o.z.size∨∃ i,i < k∧(500 < r.k.z[i]!.r.z.size∨500 < r.k.z[i]!.a.z.size))
def farD (r:RP) (k:Nat) (m:Int):Prop:=500 < m↔((500 < r.o.z.size∨∃ i,i < r.k.z.size∧(500 < r.k.z[i]!.r.z.size∨500 < r.k.z[i]!.a.z.size))∨∃ i,i < k∧500 < r.d.z[i]!.z.size)
theorem ex_succ {p:Nat→Prop} {k:Nat}:(∃ i,i < k + 1∧p i)↔(∃ i,i < k∧p i)∨p k:=by
 constructor
 ·rintro ⟨i,hi,h⟩
  rcases Nat.lt_or_ge i k with h' | h'
  ·exact Or.inl ⟨i,h',h⟩
  ·obtain rfl:i=k:=by omega
   exact Or.inr h
 ·rintro (⟨i,hi,h⟩ | h)
  ·exact ⟨i,by omega,h⟩
  ·exact ⟨k,by omega,h⟩
theorem farK_step {r:RP} {k a b:Nat} {m m':Int} (h:farK r k m) (ha:r.k.z[k]!.r.z.size=a) (hb:r.k.z[k]!.a.z.size=b) (e:m'=max m (max (a:Int) (b:Int))):farK r (k + 1) m':=by
 unfold farK at h ⊢
 rw [ex_succ,ha,hb,←or_assoc,←h,e]
 omega
theorem farD_step {r:RP} {k a:Nat} {m m':Int} (h:farD r k m) (ha:r.d.z[k]!.z.size=a) (e:m'=max m (a:Int)):farD r (k + 1) m':=by
 unfold farD at h ⊢
 rw [ex_succ,ha,←or_assoc,←h,e]
 omega
theorem anyN_iff {n:Nat} {p:Nat→Bool}:anyN n p=true↔∃ i,i < n∧p i=true:=by
 unfold anyN
 rw [List.any_eq_true]
 constructor
 ·rintro ⟨i,h1,h2⟩;exact ⟨i,List.mem_range.1 h1,h2⟩
 ·rintro ⟨i,h1,h2⟩;exact ⟨i,List.mem_range.2 h1,h2⟩
theorem qqk {r:RP}:qed r=true↔(500 < r.o.z.size∨∃ i,i < r.k.z.size∧(500 < r.k.z[i]!.r.z.size∨500 < r.k.z[i]!.a.z.size))∨∃ i,i < r.d.z.size∧500 < r.d.z[i]!.z.size:=by
 unfold qed
 simp only [Bool.or_eq_true,decide_eq_true_eq,anyN_iff,or_assoc]
theorem wide_of {r:RP} {m:Int} (h:farD r r.d.z.size m):decide (500 < m)=qed r:=by
 rw [Bool.eq_iff_iff,qqk,decide_eq_true_eq]
 exact h
set_option maxHeartbeats 8000000 in
theorem qxq (r:RP) (w:World) (hr:RdP w r) (hk1:r.k.z.size≤1000) (hd1:r.d.z.size≤1000):Calls Tryz.prog 21 #[.agg (encP r).toArray] w fun e w'=>e=.returned (.bool (qed r))∧Below w.heap.size w w':=by
 have HR:=hI hr
 have HV:=hI (fun m=>@wide_of r m)
 obtain ⟨cs,hcs⟩:∃ cs,cs=(encP r).toArray:=⟨_,rfl⟩
 have q8:cs[8]?=some (.slice r.o.A r.o.z.size r.o.c):=by rw [hcs];rfl
 have q9:cs[9]?=some (.slice r.k.A r.k.z.size r.k.c):=by rw [hcs];rfl
 have q12:cs[12]?=some (.slice r.d.A r.d.z.size r.d.c):=by rw [hcs];rfl
 have Q8:=hI q8
 have Q9:=hI q9
 have Q12:=hI q12
 have HF0:Hid (farK r 0 r.o.z.size):=by
  show _↔_
  constructor
  ·intro h;exact Or.inl (by omega)
  ·rintro (h | ⟨i,hi,_⟩)
   ·omega
   ·omega
 clear hr q8 q9 q12
 have hgoal:∀ y:Array Value,cs=y→Calls Tryz.prog 21 #[.agg y] w fun e w'=>e=.returned (.bool (qed r))∧Below w.heap.size w w':=by
  rintro _ rfl
  simp only [encP] at hcs
  have HX:=hI (BoxR.init w cs 35)
  have c8:=HX.out.at_ 8 Q8.out
  have c9:=HX.out.at_ 9 Q9.out
  rw [hcs]
  go_enter Tryz.func21,Tryz.ntmps21
  rw [←hcs]
  clear hcs
  go_wp2
  clear c8 c9
  go_loopw [3,14] (fun v i wr=>∃ (k:Nat) (m:Int),v=.int .i64 m∧i=.int .i64 k∧k≤r.k.z.size∧Hid (farK r k m)∧Hid (BoxR w cs 35 wr)) (fun _ i _=>r.k.z.size - (intOf i).toNat)
  case atStart=>exact ⟨0,_,rfl,rfl,Nat.zero_le _,HF0,HX⟩
  case round =>
   obtain ⟨k,m,rfl,rfl,hk,HF,HX⟩:=hrel
   by_cases hlt:k < r.k.z.size
   ·have kz:(k:Int) < (r.k.z.size:Int):=by omega
    obtain ⟨b,off,hA,hbl,f⟩:=(HR.out.below HX.out.b).k.rd.at_ (i:=k) hlt
    have HS:=hI (fun a b m'=>@farK_step r k a b m m' HF.out)
    obtain ⟨x,hx⟩:∃ x,r.k.z[k]! = x:=⟨_,rfl⟩
    rw [hx] at f HS
    have e0:=f 0 (by omega)
    have e1:=f 1 (by omega)
    have e2:=f 2 (by omega)
    have hA':r.k.A=some ⟨b,off,none⟩:=hA
    rw [hA']
    clear hx f hA HF
    simp only [Nat.add_zero,qcs,List.getElem!_cons_zero,List.getElem!_cons_succ] at e0 e1 e2
    have HBX:=hI (HX.out.next (bel1 wr (.cells #[.int .i64 x.base,.slice x.r.A x.r.z.size x.r.c,.slice x.a.A x.a.z.size x.a.c] 81)))
    go_wp2
    all_goals exact ⟨⟨k + 1,_,rfl,by go_num,by omega,hI (HS.out _ _ _ rfl rfl (by omega)),HBX⟩,by simp [intOf];omega⟩
   ·have hlt':decide ((k:Int) < (r.k.z.size:Int))=false:=decide_eq_false (by omega)
    obtain rfl:k=r.k.z.size:=by omega
    have HF1:Hid (farD r 0 m):=by
     show _↔_
     rw [show (500 < m↔_) from HF.out]
     constructor
     ·intro h;exact Or.inl h
     ·rintro (h | ⟨i,hi,_⟩)
      ·exact h
      ·omega
    have c12:=HX.out.at_ 12 Q12.out
    go_wp2
    clear c12
    obtain ⟨w2,HW2⟩:∃ W,Hid (W=wr):=⟨wr,hI rfl⟩
    go_loopw [3,30] (fun v i wq=>∃ (k:Nat) (m:Int),v=.int .i64 m∧i=.int .i64 k∧k≤r.d.z.size∧Hid (farD r k m)∧Hid (wq=w2)) (fun _ i _=>r.d.z.size - (intOf i).toNat)
    case atStart=>exact ⟨0,_,rfl,rfl,Nat.zero_le _,HF1,hI HW2.out.symm⟩
    case round =>
     rw [←HW2.out] at HX
     obtain ⟨k,m,rfl,rfl,hk,HF,HQ⟩:=hrel
     obtain rfl:=HQ.out
     by_cases hlt:k < r.d.z.size
     ·have kz:(k:Int) < (r.d.z.size:Int):=by omega
      obtain ⟨b,off,hA,hbl,f⟩:=(HR.out.below HX.out.b).d.rd.at_ (i:=k) hlt
      have HS:=hI (fun a m'=>@farD_step r k a m m' HF.out)
      obtain ⟨x,hx⟩:∃ x,r.d.z[k]! = x:=⟨_,rfl⟩
      rw [hx] at f HS
      have e0:=f 0 (by omega)
      have hA':r.d.A=some ⟨b,off,none⟩:=hA
      rw [hA']
      clear hx f hA HF
      simp only [Nat.add_zero,Nat.mul_one,encW,RW.v,List.getElem!_cons_zero] at e0
      go_wp2
      all_goals exact ⟨⟨k + 1,_,rfl,by go_num,by omega,hI (HS.out _ _ rfl (by omega)),hI (by first | rfl | trivial)⟩,by simp [intOf];omega⟩
     ·have hlt':decide ((k:Int) < (r.d.z.size:Int))=false:=decide_eq_false (by omega)
      obtain rfl:k=r.d.z.size:=by omega
      have HE:=hI (HV.out m HF.out)
      go_wp2
      go_ret
      exact ⟨qag HE.out,HX.out.b⟩
 exact hgoal _ hcs
end Go.Proofs.YtnmojicfmcbgmaaGreatDoor
namespace Go.Proofs.YtnmojicfmcbgmaaGreatDoor
open Go.RowKit Go.Sort Go.Lib
set_option maxRecDepth 100000
attribute [local go_sem ↓] qbc qba
attribute [local go_sem] qbt qbq qbz qfh qhm
theorem kes_succ (k:Nat):kes (k + 1)=(kes k).push ke0:=by
 unfold kes
 rw [List.replicate_succ',List.push_toArray]
theorem rws_succ (k:Nat):rws (k + 1)=(rws k).push ⟨none,0,#[]⟩:=by
 unfold rws
 rw [List.replicate_succ',List.push_toArray]
theorem qon (k:Nat):(kes k).size=k:=by simp [kes]
theorem qoo (k:Nat):(rws k).size=k:=by simp [rws]
def nbC (N:Nat) (f me:Int) (vK vM vF vD:Value):Array Value:=#[.int .i64 (N:Int),.int .i64 f,.int .i64 me,.int .i64 0,.int .i64 0,.int .i64 0,.int .i64 0,.slice none 0 0,.slice none 0 0,vK,vM,vF,vD,.int .i64 0,.int .i64 0,.int .i64 0,.slice none 0 0,.slice none 0 0]
structure NewW (g B:Nat) (w w1:World) (zs0:Array Value) (N:Nat) (f me:Int) (vM:Value) (vK:Value) (kK:Nat) (vF:Value) (kF:Nat) (vD:Value) (kD:Nat) (W:World):Prop where
 row:W.heap[g]?=some (.cells (nbC N f me vK vM vF vD) 35 (0,0))
 res:W.heap[w.heap.size]?=some (.cells zs0 35 (0,0))
 oK:W.ownsRow B 81 3 vK kK (flatK qcs 3 (kes kK)).toList
 oF:W.ownsRow B 3 1 vF kF ((zs kF).map (Value.int .i64))
 oD:W.ownsRow B 79 1 vD kD (flatK encW 1 (rws kD)).toList
 kp:∀ j,g < j→j < B→W.heap[j]?=w1.heap[j]?
 b:Below w.heap.size w W
 sz:B≤W.heap.size
 hg:w.heap.size < g
 gB:g < B
section
variable {g B:Nat} {w w1:World} {zs0:Array Value} {N:Nat} {f me:Int} {vM vK vF vD:Value} {kK kF kD:Nat} {W w3:World}
theorem NewW.cell (h:NewW g B w w1 zs0 N f me vM vK kK vF kF vD kD W) (j:Nat) {u:Value} (hj:(nbC N f me vK vM vF vD)[j]?=some u):W.cell? ⟨g,j,none⟩=some u:=by
 rw [cell_of_row W g j _ _ (0,0) h.row];exact hj
theorem NewW.froz (h:NewW g B w w1 zs0 N f me vM vK kK vF kF vD kD W) (j:Nat):W.frozen? ⟨g,j,none⟩=false:=by
 have:=h.row
 simp [World.frozen?,this]
theorem NewW.grow (h:NewW g B w w1 zs0 N f me vM vK kK vF kF vD kD W) {o:Obj} {v:Value} {e:TypeId} {s n:Nat} {xs:List Value} (hv:W.ownsRow B e s v n xs) (hg:(W.alloc o).grownBy w3 v.ownBlock) :
 w3.heap[g]?=some (.cells (nbC N f me vK vM vF vD) 35 (0,0))∧w3.heap[w.heap.size]?=some (.cells zs0 35 (0,0))∧(∀ j,g < j→j < B→w3.heap[j]?=w1.heap[j]?)∧Below w.heap.size w w3∧B≤w3.heap.size:=by
 have hlt:=hv.lt
 have key:∀ j,j < B→w3.heap[j]?=W.heap[j]?:=fun j hj=>by
  have hs:=h.sz
  rw [hg.block j (by simp;omega) (fun he=>by have:=(hlt j he.symm).1;omega)]
  exact heap_alloc_old W o (by omega)
 have h1:=h.hg
 have h2:=h.gB
 refine ⟨(key g h2).trans h.row,(key _ (by omega)).trans h.res,fun j a b=>(key j b).trans (h.kp j a b),⟨hg.os.trans h.b.os,hg.tape.trans h.b.tape,hg.output.trans h.b.output,?_,fun j hj=>(key j (by omega)).trans (h.b.block j hj)⟩,?_⟩
 ·have:=hg.size
  have:=h.b.size
  simp at *
  omega
 ·have:=hg.size
  have:=h.sz
  simp at *
  omega
theorem NewW.alloc (h:NewW g B w w1 zs0 N f me vM vK kK vF kF vD kD W) (o:Obj):NewW g B w w1 zs0 N f me vM vK kK vF kF vD kD (W.alloc o) :=
 ⟨qes h.row,qes h.res,h.oK.alloc o,h.oF.alloc o,h.oD.alloc o,fun j a b=>(heap_alloc_old W o (by have:=h.sz;omega)).trans (h.kp j a b),qad h.b o,by have:=h.sz;simp;omega,h.hg,h.gB⟩
theorem qfc {e:TypeId} {s n:Nat} {v:Value} {xs:List Value} (h:W.ownsRow B e s v n xs) (hg:g < B) (j:Nat) (u:Value):(W.setCell ⟨g,j,none⟩ u).ownsRow B e s v n xs :=
 qhj h (Nat.le_refl _) (fun i hi _=>heap_setCell_other W ⟨g,j,none⟩ i u (by simp;omega))
theorem NewW.putK (h:NewW g B w w1 zs0 N f me vM vK kK vF kF vD kD W) {o:Obj} {v':Value} (hg:(W.alloc o).grownBy w3 vK.ownBlock) (ho:w3.ownsRow B 81 3 v' (kK + 1) ((flatK qcs 3 (kes kK)).toList ++ [.int .i64 0,.slice none 0 0,.slice none 0 0])) :
 NewW g B w w1 zs0 N f me vM v' (kK + 1) vF kF vD kD (w3.setCell ⟨g,9,none⟩ v'):=by
 obtain ⟨h1,h2,h3,h4,h5⟩:=h.grow h.oK hg
 have hgB:=h.gB
 have hwg:=h.hg
 refine ⟨heap_setCell_same w3 g 9 _ _ v' h1,(heap_setCell_other w3 ⟨g,9,none⟩ _ v' (by simp;omega)).trans h2,qfc ?_ hgB 9 v',qfc (qer (h.oK.alloc o) (h.oF.alloc o) (by decide) hg) hgB 9 v',qfc (qer (h.oK.alloc o) (h.oD.alloc o) (by decide) hg) hgB 9 v',
  fun j a b=>(heap_setCell_other w3 ⟨g,9,none⟩ j v' (by simp;omega)).trans (h3 j a b),h4.setCell (p:=⟨g,9,none⟩) (by simp;omega) v',by simpa using h5,hwg,hgB⟩
 rw [kes_succ,qcr qrj]
 exact ho
theorem NewW.putF (h:NewW g B w w1 zs0 N f me vM vK kK vF kF vD kD W) {o:Obj} {v':Value} (hg:(W.alloc o).grownBy w3 vF.ownBlock) (ho:w3.ownsRow B 3 1 v' (kF + 1) ((zs kF).map (Value.int .i64) ++ [.int .i64 0])) :
 NewW g B w w1 zs0 N f me vM vK kK v' (kF + 1) vD kD (w3.setCell ⟨g,11,none⟩ v'):=by
 obtain ⟨h1,h2,h3,h4,h5⟩:=h.grow h.oF hg
 have hgB:=h.gB
 have hwg:=h.hg
 refine ⟨heap_setCell_same w3 g 11 _ _ v' h1,(heap_setCell_other w3 ⟨g,11,none⟩ _ v' (by simp;omega)).trans h2,qfc (qer (h.oF.alloc o) (h.oK.alloc o) (by decide) hg) hgB 11 v',qfc ?_ hgB 11 v',qfc (qer (h.oF.alloc o) (h.oD.alloc o) (by decide) hg) hgB 11 v',
  fun j a b=>(heap_setCell_other w3 ⟨g,11,none⟩ j v' (by simp;omega)).trans (h3 j a b),h4.setCell (p:=⟨g,11,none⟩) (by simp;omega) v',by simpa using h5,hwg,hgB⟩
 rw [zs_succ,List.map_append]
 exact ho
theorem NewW.putD (h:NewW g B w w1 zs0 N f me vM vK kK vF kF vD kD W) {o:Obj} {v':Value} (hg:(W.alloc o).grownBy w3 vD.ownBlock) (ho:w3.ownsRow B 79 1 v' (kD + 1) ((flatK encW 1 (rws kD)).toList ++ [.slice none 0 0])) :
 NewW g B w w1 zs0 N f me vM vK kK vF kF v' (kD + 1) (w3.setCell ⟨g,12,none⟩ v'):=by
 obtain ⟨h1,h2,h3,h4,h5⟩:=h.grow h.oD hg
 have hgB:=h.gB
 have hwg:=h.hg
 refine ⟨heap_setCell_same w3 g 12 _ _ v' h1,(heap_setCell_other w3 ⟨g,12,none⟩ _ v' (by simp;omega)).trans h2,qfc (qer (h.oD.alloc o) (h.oK.alloc o) (by decide) hg) hgB 12 v',qfc (qer (h.oD.alloc o) (h.oF.alloc o) (by decide) hg) hgB 12 v',qfc ?_ hgB 12 v',
  fun j a b=>(heap_setCell_other w3 ⟨g,12,none⟩ j v' (by simp;omega)).trans (h3 j a b),h4.setCell (p:=⟨g,12,none⟩) (by simp;omega) v',by simpa using h5,hwg,hgB⟩
 rw [rws_succ,qcr qpe]
 exact ho
end
theorem qlk {w:World} {B s n:Nat} {e:TypeId} {v:Value} {xs:List Value} (h:w.ownsRow B e s v n xs):∃ A c,v=.slice A n c:=by
 obtain ⟨_,⟨e,h0⟩ | ⟨_,_,_,e,_⟩⟩:=h
 ·exact ⟨none,0,by rw [h0];exact e⟩
 ·exact ⟨_,_,e⟩
theorem NewW.done {g B:Nat} {w w1 W W':World} {zs0:Array Value} {N:Nat} {f me:Int} {vM vK vF vD:Value} (hp:newP (N:Int) f me) (h:NewW g B w w1 zs0 N f me vM vK N vF N vD N W) (hB:B≤w1.heap.size) (hm:OwnZ (g + 1) w1 vM N) (hm2:w1.heap.size≤B) (ho:∀ j,g < j→W'.heap[j]?=W.heap[j]?) :
 NewQ (N:Int) f me (.returned (.tuple #[.agg (nbC N f me vK vM vF vD),.int .i64 0])) W':=by
 have hgB:=h.gB
 obtain ⟨xK,eK,zK,rK⟩:=qic (d:=kes N) (en:=qcs) (by rw [qon];exact qhj (W:=W') h.oK (B0:=g + 1) (by omega) (fun j hj _=>ho j (by omega)))
 obtain ⟨xF,eF,zF,rF⟩:=qma (l:=zs N) (by rw [zs_len];exact qhj (W:=W') h.oF (B0:=g + 1) (by omega) (fun j hj _=>ho j (by omega)))
 obtain ⟨xD,eD,zD,rD⟩:=qic (d:=rws N) (en:=encW) (by rw [qoo];exact qhj (W:=W') h.oD (B0:=g + 1) (by omega) (fun j hj _=>ho j (by omega)))
 obtain ⟨xM,eM,zM,rM⟩:=(hm.same (W:=W') (fun j hj hl=>(ho j (by omega)).trans (h.kp j (by omega) (by omega)))).rd
 subst eK eF eD eM
 refine ⟨⟨(N:Int),f,me,0,0,0,0,⟨none,0,#[]⟩,⟨none,0,#[]⟩,xK,xM,xF,xD,0,0,0,⟨none,0,#[]⟩,⟨none,0,#[]⟩⟩,?_,?_,?_⟩
 ·rw [if_pos hp]
  rfl
 ·rw [if_pos hp,Int.toNat_natCast]
  refine ⟨⟨rfl,rfl,rfl,rfl,rfl,rfl,rfl,rfl,rfl,rfl⟩,rfl,rfl,?_,zM,zF,?_,rfl,rfl⟩
  ·show xK.z.size=N∧∀ i,i < N→xK.z[i]!.kn=_
   rw [zK]
   exact ⟨qon N,fun i hi=>by rw [show (kes N)[i]! = ke0 from qpm N i _ hi];rfl⟩
  ·show xD.z.size=N∧∀ i,i < N→xD.z[i]!.z=_
   rw [zD]
   exact ⟨qoo N,fun i hi=>by rw [show (rws N)[i]! = ⟨none,0,#[]⟩ from qpm N i _ hi]⟩
 ·refine ⟨⟨fun h=>absurd h (Nat.not_lt_zero _),fun i hi=>absurd hi (Nat.not_lt_zero i)⟩,qku _ _ _,rK,fun i hi=>?_,rM.1,rM.2,rF,rD,fun i hi=>?_,qft _ _ _,qft _ _ _⟩
  ·have hi':i < xK.z.size:=hi
   show RdKE W' xK.z[i]!
   rw [zK] at hi' ⊢
   rw [qon] at hi'
   rw [show (kes N)[i]! = ke0 from qpm N i _ hi']
   exact ⟨qku _ _ _,qku _ _ _⟩
  ·have hi':i < xD.z.size:=hi
   show RdW encR 2 W' xD.z[i]!
   rw [zD] at hi' ⊢
   rw [qoo] at hi'
   rw [show (rws N)[i]! = ⟨none,0,#[]⟩ from qpm N i _ hi']
   exact qft _ _ _
theorem three_one (w:World) (a b:Array Value) (t u:TypeId) (_:True):((w.alloc (.cells a t)).alloc (.cells b u)).heap[w.heap.size]?=some (.cells a t (0,0)):=qes (heap_alloc_new w _)
theorem three_two (w:World) (a b:Array Value) (t u:TypeId) (_:True):((w.alloc (.cells a t)).alloc (.cells b u)).heap[w.heap.size + 1]?=some (.cells b u (0,0)):=heap_alloc2_new w _ _
theorem qva (W:World) (a:Addr) (v:Value) (l:List Value) (t:TypeId) (s:Nat) (hs:(W.setCell a v).heap.size=s):∀ j u,l[j]?=some u→((W.setCell a v).alloc (.cells l.toArray t)).cell? ((⟨s,0,none⟩:Addr).add j)=some u:=hs ▸ newL _ _ _
theorem own_k0 (W:World) (B:Nat):W.ownsRow B 81 3 (.slice none 0 0) 0 (flatK qcs 3 (kes 0)).toList:=by
 have e:kes 0=#[]:=rfl
 rw [e]
 exact qda _ _ _ _ _
theorem own_d0 (W:World) (B:Nat):W.ownsRow B 79 1 (.slice none 0 0) 0 (flatK encW 1 (rws 0)).toList:=by
 have e:rws 0=#[]:=rfl
 rw [e]
 exact qda _ _ _ _ _
def zer18:Array Value:=#[.int .i64 0,.int .i64 0,.int .i64 0,.int .i64 0,.int .i64 0,.int .i64 0,.int .i64 0,.slice none 0 0,.slice none 0 0,.slice none 0 0,.slice none 0 0,.slice none 0 0,.slice none 0 0,.int .i64 0,.int .i64 0,.int .i64 0,.slice none 0 0,.slice none 0 0]
set_option maxHeartbeats 16000000 in
theorem qxr (n f me:Int) (w:World):Calls Tryz.prog 19 #[.int .i64 n,.int .i64 f,.int .i64 me] w fun e w'=>NewQ n f me e w'∧Below w.heap.size w w':=by
 have hE:=qmi n f
 have HSZ:=hI (fun W=>qrt n f W)
 by_cases hP:newP n f me
 ·obtain ⟨h1,h2,h3⟩:=hP
  have h1':=h1
  unfold qeb at h1'
  have HP:Hid (newP n f me):=⟨h1,h2,h3⟩
  have e0:(qkm n f == 0)=false:=beq_eq_false_iff_ne.2 (hE.2 h1)
  obtain ⟨N,rfl⟩:∃ N:Nat,n=(N:Int):=⟨n.toNat,by omega⟩
  have hN9:N≤9:=by omega
  have HN:=hI (fun W=>rSwNew_ok N W (by omega) (by omega))
  have e2:decide (me < 1)=false:=decide_eq_false (by omega)
  have e3:decide ((N:Int) < me)=false:=decide_eq_false (by omega)
  generalize qkm (N:Int) f=z1 at HSZ e0
  generalize qzg (N:Int) f=z2 at HSZ
  generalize qzh (N:Int) f=z3 at HSZ
  clear h1 h1' h2 h3 hE
  go_enter Tryz.func19,Tryz.ntmps19
  go_wp2_with (first
   | (go_at_call 60;refine (HSZ.out _).mono ?_;rintro _ _ ⟨rfl,rfl⟩)
   | (go_at_call 61;refine (HN.out _).mono ?_;rintro _ w1 ⟨⟨vM,rfl,ho⟩,hb⟩;have HO:=hI ho;have HB:=hI hb;obtain ⟨AM,cM,rfl⟩:∃ A c,vM=.slice A N c:=(by obtain ⟨L,hl,h1,_⟩:=ho;rw [←hl];exact qlk h1);clear ho hb;
      have hsz1:w.heap.size + 1 + 1≤w1.heap.size:=(by have:=HB.out.size;simpa using this);
      have hrow:=(HB.out.block (w.heap.size + 1) (by simp)).trans (three_two _ _ _ _ _ trivial);have hrow0:=(HB.out.block w.heap.size (by simp;omega)).trans (three_one _ _ _ _ _ trivial);
      have c10:w1.cell? ⟨w.heap.size + 1,10,none⟩=some (.slice none 0 0):=(cell_of_row w1 (w.heap.size + 1) 10 _ _ (0,0) hrow).trans rfl;have f10:w1.frozen? ⟨w.heap.size + 1,10,none⟩=false:=(by simp [World.frozen?,hrow]);have HR:=hI hrow;have HR0:=hI hrow0;clear hrow hrow0))
  have HW0:Hid (NewW (w.heap.size + 1) w1.heap.size w w1 zer18 N f me (.slice AM N cM) (.slice none 0 0) 0 (.slice none 0 0) 0 (.slice none 0 0) 0 (w1.setCell ⟨w.heap.size + 1,10,none⟩ (.slice AM N cM))) :=
   ⟨heap_setCell_same w1 _ 10 _ _ _ HR.out,(heap_setCell_other w1 ⟨w.heap.size + 1,10,none⟩ _ _ (by simp)).trans HR0.out,own_k0 _ _,World.ownsRow_nil _ _ _ _,own_d0 _ _,fun j a b=>heap_setCell_other w1 ⟨w.heap.size + 1,10,none⟩ j _ (by simp;omega),((qac (qad (bel1 w _) _) HB.out)).setCell (p:=⟨w.heap.size + 1,10,none⟩) (by simp) _,by simp,Nat.lt_succ_self _,by omega⟩
  obtain ⟨ws,hws⟩:∃ W,W=w1.setCell ⟨w.heap.size + 1,10,none⟩ (.slice AM N cM):=⟨_,rfl⟩
  rw [←hws] at HW0 ⊢
  obtain ⟨g,hg⟩:∃ g,w.heap.size + 1=g:=⟨_,rfl⟩
  rw [hg] at HW0 ⊢
  have HG:=hI hg
  obtain ⟨i0,hi0,hz0,hz1,hz2⟩:=info_parts qpl
  obtain ⟨j0,hj0,hy0,hy1,hy2⟩:=info_parts qnt
  obtain ⟨k0,hk0,hx0,hx1,hx2⟩:=info_parts qmk
  clear hws c10 f10 hg
  go_loopw [12] (fun i wr=>∃ (k:Nat) (vK vF vD:Value),i=.int .i64 k∧k≤N∧Hid (NewW g w1.heap.size w w1 zer18 N f me (.slice AM N cM) vK k vF k vD k wr)) (fun i _=>N - (intOf i).toNat)
  case atStart=>exact ⟨0,_,_,_,rfl,Nat.zero_le _,HW0⟩
  case round =>
   obtain ⟨k,vK,vF,vD,rfl,hk,HW⟩:=hrel
   by_cases hlt:k < N
   ·have kz:(k:Int) < (N:Int):=by omega
    have c9:=HW.out.cell 9 (u:=vK) rfl
    have hsz:=HW.out.sz
    go_wp2_with (first
     | (at_builtin;refine wpList_append_own _ rfl _ _ 24 rfl w1.heap.size 81 i0 (.agg #[.int .i64 0,.slice none 0 0,.slice none 0 0]) 3 56 Tryz.underlying24 hi0 hz0 hz1 hz2 rfl (by decide) _ _ _ rfl (HW.out.oK.alloc _) ⟨wr.heap.size,0,none⟩ 1 1 [.int .i64 0,.slice none 0 0,.slice none 0 0] rfl rfl (newL wr _ _) (by simp [Value.oneCell']) (by unfold maxLen;omega) (by omega) (by simp;omega) ?_;intro vK' w3 hown3 hgrow _;
        obtain ⟨AK3,cK3,rfl⟩:=qlk hown3;have HW3:=hI (HW.out.putK hgrow hown3);have r3:=(HW.out.grow HW.out.oK hgrow).1;have c9:w3.cell? ⟨g,9,none⟩=some vK:=(cell_of_row w3 g 9 _ _ (0,0) r3).trans rfl;have f9:w3.frozen? ⟨g,9,none⟩=false:=(by simp [World.frozen?,r3]);have c11:w3.cell? ⟨g,11,none⟩=some vF:=(cell_of_row w3 g 11 _ _ (0,0) r3).trans rfl;have hsz:=HW3.out.sz)
     | (at_builtin;refine wpList_append_own _ rfl _ _ 26 rfl w1.heap.size 3 j0 (.int .i64 0) 1 8 Tryz.underlying26 hj0 hy0 hy1 hy2 rfl (by decide) _ _ _ rfl (HW3.out.oF.alloc _) ⟨w3.heap.size,0,none⟩ 1 1 [.int .i64 0] rfl rfl (qva _ _ _ _ _ _ (by simp)) (by simp [Value.oneCell']) (by unfold maxLen;omega) (by omega) (by simp at hsz ⊢;omega) ?_;intro vF' w4 hown4 hgrow4 _;
        obtain ⟨AF4,cF4,rfl⟩:=qlk hown4;have HW4:=hI (HW3.out.putF hgrow4 hown4);have r4:=(HW3.out.grow HW3.out.oF hgrow4).1;have c11:w4.cell? ⟨g,11,none⟩=some vF:=(cell_of_row w4 g 11 _ _ (0,0) r4).trans rfl;have f11:w4.frozen? ⟨g,11,none⟩=false:=(by simp [World.frozen?,r4]);have c12:w4.cell? ⟨g,12,none⟩=some vD:=(cell_of_row w4 g 12 _ _ (0,0) r4).trans rfl;have hsz4:=HW4.out.sz)
     | (at_builtin;refine wpList_append_own _ rfl _ _ 27 rfl w1.heap.size 79 k0 (.slice none 0 0) 1 24 Tryz.underlying27 hk0 hx0 hx1 hx2 rfl (by decide) _ _ _ rfl (HW4.out.oD.alloc _) ⟨w4.heap.size,0,none⟩ 1 1 [.slice none 0 0] rfl rfl (qva _ _ _ _ _ _ (by simp)) (by simp [Value.oneCell']) (by unfold maxLen;omega) (by omega) (by simp at hsz4 ⊢;omega) ?_;intro vD' w5 hown5 hgrow5 _;
        obtain ⟨AD5,cD5,rfl⟩:=qlk hown5;have HW5:=hI (HW4.out.putD hgrow5 hown5);have r5:=(HW4.out.grow HW4.out.oD hgrow5).1;have c12:w5.cell? ⟨g,12,none⟩=some vD:=(cell_of_row w5 g 12 _ _ (0,0) r5).trans rfl;have f12:w5.frozen? ⟨g,12,none⟩=false:=(by simp [World.frozen?,r5])))
    go_roundw
    case rel=>exact ⟨k + 1,_,_,_,by go_num,by omega,HW5⟩
    case measure=>simp [intOf];omega
   ·have hlt':decide ((k:Int) < (N:Int))=false:=decide_eq_false (by omega)
    obtain rfl:k=N:=by omega
    obtain ⟨AK,cK,rfl⟩:=qlk HW.out.oK
    obtain ⟨AF,cF,rfl⟩:=qlk HW.out.oF
    obtain ⟨AD,cD,rfl⟩:=qlk HW.out.oD
    have x1:=qav HW.out.row (n:=18) rfl
    have x2:=qbh HW.out.row
    unfold nbC at x2
    have y1:=qav HW.out.res (n:=18) rfl
    have HQ:=hI (fun W' ho=>HW.out.done (W':=W') HP.out (Nat.le_refl _) (by
     have h:=HO.out
     simp only [World.alloc,Array.size_push,HG.out] at h
     exact h) (Nat.le_refl _) ho)
    have HRES:=hI HW.out.res
    have HBW:=hI HW.out.b
    go_wp2
    refine bodyPost_ret (qbm rfl rfl (setRow_heap _ _ _ _ _ _ HRES.out) rfl) rfl ?_
    refine ⟨HQ.out _ (fun j hj=>setRow_other _ _ j _ (by have:=HG.out;omega)),HBW.out.trans ⟨rfl,rfl,rfl,by simp,fun j hj=>setRow_other _ _ j _ (by omega)⟩⟩
 ·have HF:=hI (newQ_none hP)
  by_cases h1:qeb n f
  ·have e0:(qkm n f == 0)=false:=beq_eq_false_iff_ne.2 (hE.2 h1)
   generalize qkm n f=z1 at HSZ e0
   generalize qzg n f=z2 at HSZ
   generalize qzh n f=z3 at HSZ
   by_cases h2:1≤me
   ·have h3:¬ me≤n:=fun h3=>hP ⟨h1,h2,h3⟩
    have e2:decide (me < 1)=false:=decide_eq_false (by omega)
    have e3:decide (n < me)=true:=decide_eq_true (by omega)
    clear hP h1 h2 h3 hE
    go_enter Tryz.func19,Tryz.ntmps19
    go_wp2_with (go_at_call 60;refine (HSZ.out _).mono ?_;rintro _ _ ⟨rfl,rfl⟩)
    refine bodyPost_ret (qbm rfl rfl (heap_alloc_new _ _) rfl) rfl ?_
    exact ⟨HF.out _,bel1 _ _⟩
   ·have e2:decide (me < 1)=true:=decide_eq_true (by omega)
    clear hP h1 h2 hE
    go_enter Tryz.func19,Tryz.ntmps19
    go_wp2_with (go_at_call 60;refine (HSZ.out _).mono ?_;rintro _ _ ⟨rfl,rfl⟩)
    refine bodyPost_ret (qbm rfl rfl (heap_alloc_new _ _) rfl) rfl ?_
    exact ⟨HF.out _,bel1 _ _⟩
  ·have e0:(qkm n f == 0)=true:=beq_iff_eq.2 (Classical.byContradiction fun h=>h1 (hE.1 h))
   generalize qkm n f=z1 at HSZ e0
   generalize qzg n f=z2 at HSZ
   generalize qzh n f=z3 at HSZ
   clear hP h1 hE
   go_enter Tryz.func19,Tryz.ntmps19
   go_wp2_with (go_at_call 60;refine (HSZ.out _).mono ?_;rintro _ _ ⟨rfl,rfl⟩)
   refine bodyPost_ret (qbm rfl rfl (heap_alloc_new _ _) rfl) rfl ?_
   exact ⟨HF.out _,bel1 _ _⟩
end Go.Proofs.YtnmojicfmcbgmaaGreatDoor
