/- Texts that the law leans on. -/
import Derived.Test.YtjkecckndfcbjaaGreatDoorPLftA
import Derived.Test.YtjkecckndfcbjaaGreatDoorPOwnK
namespace Go.Proofs.YtjkecckndfcbjaaGreatDoor
open Go.RowKit Go.Sort
set_option maxRecDepth 100000
def qit (x:AC):List Value:=[.int .i64 x.ok,.int .i64 x.n,.string x.ot,.int .i64 x.a.keep,.string x.a.trash,.bool x.a.reset,.int .i64 x.b.keep,.string x.b.trash,.bool x.b.reset]
def qhm (x:AC):List Value:=[.int .i64 x.k,.int .i64 x.e.1,.string x.e.2,.string x.tx,.int .i64 x.ok,.int .i64 x.n,.string x.ot,.int .i64 x.a.keep,.string x.a.trash,.bool x.a.reset,.int .i64 x.b.keep,.string x.b.trash,.bool x.b.reset]
def qea (x:AC):Prop:=x.ot.size≤2000∧x.a.trash.size≤2000∧x.b.trash.size≤2000
def qhn (x:AC):Prop:=x.e.2.size≤3000∧x.tx.size≤19000∧qea x
instance (x:AC):Decidable (qea x):=by unfold qea;infer_instance
instance (x:AC):Decidable (qhn x):=by unfold qhn;infer_instance
def qqb (d:Array AC):Bool:=decide (d.size≤80) && (List.range d.size).all fun i=>decide (qea d[i]!)
def qsi (d:Array AC):Bool:=decide (d.size≤40) && (List.range d.size).all fun i=>decide (qhn d[i]!)
theorem qks {z:Array AC}:qqb z=true↔z.size≤80∧∀ i,i < z.size→qea z[i]!:=by
 unfold qqb
 rw [Bool.and_eq_true,decide_eq_true_eq,List.all_eq_true]
 constructor
 ·rintro ⟨h,g⟩;exact ⟨h,fun i hi=>of_decide_eq_true (g i (List.mem_range.2 hi))⟩
 ·rintro ⟨h,g⟩;exact ⟨h,fun i hi=>decide_eq_true (g i (List.mem_range.1 hi))⟩
theorem qho {z:Array AC}:qsi z=true↔z.size≤40∧∀ i,i < z.size→qhn z[i]!:=by
 unfold qsi
 rw [Bool.and_eq_true,decide_eq_true_eq,List.all_eq_true]
 constructor
 ·rintro ⟨h,g⟩;exact ⟨h,fun i hi=>of_decide_eq_true (g i (List.mem_range.2 hi))⟩
 ·rintro ⟨h,g⟩;exact ⟨h,fun i hi=>decide_eq_true (g i (List.mem_range.1 hi))⟩
theorem few12_one (x:AC):qqb #[x]=decide (qea x):=by
 have:=x
 unfold qqb
 simp
theorem flat_one (x:AC):#[.int .i64 x.ok,.int .i64 x.n,.string x.ot,.int .i64 x.a.keep,.string x.a.trash,.bool x.a.reset,.int .i64 x.b.keep,.string x.b.trash,.bool x.b.reset]=flatK qit 9 #[x]:=by
 have h:=qfx (enc:=qit) (k:=9) (fun _=>rfl) #[x]
 apply Array.toList_inj.1
 rw [h]
 simp [qit]
set_option maxHeartbeats 4000000 in
theorem few12_any (A:Option Addr) (c B:Nat) (d:Array AC) (w:World) (h:RdK qit 9 B w A d) :
 Calls Tryz.prog 25 #[.slice A d.size c] w fun e w'=>e=.returned (.bool (qqb d))∧w=w':=by
 by_cases hs:d.size≤80
 ·have hs':decide ((80:Int) < (d.size:Int))=false:=decide_eq_false (by omega)
  go_enter Tryz.func25,Tryz.ntmps25
  go_wp2
  go_loopw [3] (fun i wr=>∃ k:Nat,i=.int .i64 k∧k≤d.size∧Hid (∀ j,j < k→qea d[j]!)∧wr=w) (fun i _=>d.size - (intOf i).toNat)
  case atStart=>exact ⟨0,rfl,Nat.zero_le _,hI (fun j hj=>absurd hj (by omega)),rfl⟩
  case round =>
   obtain ⟨k,rfl,hk,hall,rfl⟩:=hrel
   by_cases hlt:k < d.size
   ·have kz:(k:Int) < (d.size:Int):=by omega
    obtain ⟨b,off,rfl,hbl,f⟩:=h.at_ (i:=k) hlt
    have e2:=f 2 (by omega)
    have e4:=f 4 (by omega)
    have e7:=f 7 (by omega)
    have HNO:Hid (¬ qea d[k]!→qqb d=false):=fun hg=>Bool.eq_false_iff.2 fun h=>hg ((qks.1 h).2 k hlt)
    have HJ:Hid (qea d[k]!→∀ j,j < k + 1→qea d[j]!):=fun hg j hj=>by
     rcases Nat.lt_or_ge j k with h' | h'
     ·exact hall.out j h'
     ·obtain rfl:j=k:=by omega
      exact hg
    generalize d[k]! = x at e2 e4 e7 HNO HJ
    clear f
    simp only [qit,List.getElem!_cons_zero,List.getElem!_cons_succ] at e2 e4 e7
    by_cases g1:2000 < x.ot.size
    ·have g1':decide ((2000:Int) < (x.ot.size:Int))=true:=decide_eq_true (by omega)
     have HF:=hI (HNO.out (fun h=>by have:=h.1;omega))
     clear g1
     go_wp2
     go_ret
     exact ⟨qah HF.out.symm,rfl⟩
    have g1':decide ((2000:Int) < (x.ot.size:Int))=false:=decide_eq_false (by omega)
    by_cases g2:2000 < x.a.trash.size
    ·have g2':decide ((2000:Int) < (x.a.trash.size:Int))=true:=decide_eq_true (by omega)
     have HF:=hI (HNO.out (fun h=>by have:=h.2.1;omega))
     clear g1 g2
     go_wp2
     go_ret
     exact ⟨qah HF.out.symm,rfl⟩
    have g2':decide ((2000:Int) < (x.a.trash.size:Int))=false:=decide_eq_false (by omega)
    by_cases g3:2000 < x.b.trash.size
    ·have g3':decide ((2000:Int) < (x.b.trash.size:Int))=true:=decide_eq_true (by omega)
     have HF:=hI (HNO.out (fun h=>by have:=h.2.2;omega))
     clear g1 g2 g3
     go_wp2
     go_ret
     exact ⟨qah HF.out.symm,rfl⟩
    have g3':decide ((2000:Int) < (x.b.trash.size:Int))=false:=decide_eq_false (by omega)
    have HT:=hI (HJ.out ⟨by omega,by omega,by omega⟩)
    clear g1 g2 g3
    go_wp2
    go_roundw
    case rel=>exact ⟨k + 1,by go_num,by omega,HT,trivial⟩
    case measure=>simp [intOf];omega
   ·have hlt':decide ((k:Int) < (d.size:Int))=false:=decide_eq_false (by omega)
    have HF:Hid (qqb d=true):=qks.2 ⟨hs,fun i hi=>hall.out i (by omega)⟩
    go_wp2
    go_ret
    exact ⟨qah HF.out.symm,rfl⟩
 ·have hs':decide ((80:Int) < (d.size:Int))=true:=decide_eq_true (by omega)
  have HF:Hid (qqb d=false):=Bool.eq_false_iff.2 fun h=>hs (qks.1 h).1
  go_enter Tryz.func25,Tryz.ntmps25
  go_wp2
  go_ret
  exact ⟨qah HF.out.symm,rfl⟩
set_option maxHeartbeats 4000000 in
theorem few13_any (A:Option Addr) (c:Nat) (d:Array AC) (w:World) (h:RdK qhm 13 w.heap.size w A d) :
 Calls Tryz.prog 6 #[.slice A d.size c] w fun e w'=>e=.returned (.bool (qsi d))∧Below w.heap.size w w':=by
 have HR:=hI h
 clear h
 by_cases hs:d.size≤40
 ·have hs':decide ((40:Int) < (d.size:Int))=false:=decide_eq_false (by omega)
  go_enter Tryz.func6,Tryz.ntmps6
  go_wp2
  go_loopw [3] (fun i wr=>∃ k:Nat,i=.int .i64 k∧k≤d.size∧Hid (∀ j,j < k→qhn d[j]!)∧Hid (Below w.heap.size w wr)) (fun i _=>d.size - (intOf i).toNat)
  case atStart=>exact ⟨0,rfl,Nat.zero_le _,hI (fun j hj=>absurd hj (by omega)),hI (Below.refl _ _)⟩
  case round =>
   obtain ⟨k,rfl,hk,hall,HB⟩:=hrel
   by_cases hlt:k < d.size
   ·have kz:(k:Int) < (d.size:Int):=by omega
    obtain ⟨b,off,rfl,hbl,f⟩:=(HR.out.below HB.out).at_ (i:=k) hlt
    have e2:=f 2 (by omega)
    have e3:=f 3 (by omega)
    have e4:=f 4 (by omega)
    have e5:=f 5 (by omega)
    have e6:=f 6 (by omega)
    have e7:=f 7 (by omega)
    have e8:=f 8 (by omega)
    have e9:=f 9 (by omega)
    have e10:=f 10 (by omega)
    have e11:=f 11 (by omega)
    have e12:=f 12 (by omega)
    have HNO:Hid (¬ qhn d[k]!→qsi d=false):=fun hg=>Bool.eq_false_iff.2 fun h=>hg ((qho.1 h).2 k hlt)
    have HJ:Hid (qhn d[k]!→∀ j,j < k + 1→qhn d[j]!):=fun hg j hj=>by
     rcases Nat.lt_or_ge j k with h' | h'
     ·exact hall.out j h'
     ·obtain rfl:j=k:=by omega
      exact hg
    generalize d[k]! = x at e2 e3 e4 e5 e6 e7 e8 e9 e10 e11 e12 HNO HJ
    clear f
    simp only [qhm,List.getElem!_cons_zero,List.getElem!_cons_succ] at e2 e3 e4 e5 e6 e7 e8 e9 e10 e11 e12
    by_cases g1:3000 < x.e.2.size
    ·have g1':decide ((3000:Int) < (x.e.2.size:Int))=true:=decide_eq_true (by omega)
     have HF:=hI (HNO.out (fun h=>by have:=h.1;omega))
     clear g1
     go_wp2
     go_ret
     exact ⟨qah HF.out.symm,HB.out⟩
    have g1':decide ((3000:Int) < (x.e.2.size:Int))=false:=decide_eq_false (by omega)
    by_cases g2:19000 < x.tx.size
    ·have g2':decide ((19000:Int) < (x.tx.size:Int))=true:=decide_eq_true (by omega)
     have HF:=hI (HNO.out (fun h=>by have:=h.2.1;omega))
     clear g1 g2
     go_wp2
     go_ret
     exact ⟨qah HF.out.symm,HB.out⟩
    have g2':decide ((19000:Int) < (x.tx.size:Int))=false:=decide_eq_false (by omega)
    have HF:Hid (∀ (W:World) (t:TypeId),Calls Tryz.prog 25 #[.slice (some ⟨W.heap.size,0,none⟩) 1 1] (W.alloc (.cells #[.int .i64 x.ok,.int .i64 x.n,.string x.ot,.int .i64 x.a.keep,.string x.a.trash,.bool x.a.reset,.int .i64 x.b.keep,.string x.b.trash,.bool x.b.reset] t)) fun e w'=>e=.returned (.bool (decide (qea x)))∧W.alloc (.cells #[.int .i64 x.ok,.int .i64 x.n,.string x.ot,.int .i64 x.a.keep,.string x.a.trash,.bool x.a.reset,.int .i64 x.b.keep,.string x.b.trash,.bool x.b.reset] t)=w'):=fun W t=>by
     have:=few12_any (some ⟨W.heap.size,0,none⟩) 1 (W.heap.size + 1) #[x] _ (RdK.new W qit 9 #[x] t #[.int .i64 x.ok,.int .i64 x.n,.string x.ot,.int .i64 x.a.keep,.string x.a.trash,.bool x.a.reset,.int .i64 x.b.keep,.string x.b.trash,.bool x.b.reset] (flat_one x))
     rw [few12_one] at this
     exact this
    by_cases g3:qea x
    rotate_left
    ·have g3':decide (qea x)=false:=decide_eq_false g3
     have HF2:=hI (HNO.out (fun h=>g3 h.2.2))
     rw [g3'] at HF
     clear g1 g2 g3 g3'
     go_wp2_with (go_at_call 25;refine (HF.out _ _).mono ?_;rintro _ _ ⟨rfl,rfl⟩)
     go_ret
     exact ⟨qah HF2.out.symm,qab HB.out _⟩
    have g3':decide (qea x)=true:=decide_eq_true g3
    have HT:=hI (HJ.out ⟨by omega,by omega,g3⟩)
    rw [g3'] at HF
    clear g1 g2 g3 g3'
    go_wp2_with (go_at_call 25;refine (HF.out _ _).mono ?_;rintro _ _ ⟨rfl,rfl⟩)
    go_roundw
    case rel=>exact ⟨k + 1,by go_num,by omega,HT,hI (qab HB.out _)⟩
    case measure=>simp [intOf];omega
   ·have hlt':decide ((k:Int) < (d.size:Int))=false:=decide_eq_false (by omega)
    have HF:Hid (qsi d=true):=qho.2 ⟨hs,fun i hi=>hall.out i (by omega)⟩
    go_wp2
    go_ret
    exact ⟨qah HF.out.symm,HB.out⟩
 ·have hs':decide ((40:Int) < (d.size:Int))=true:=decide_eq_true (by omega)
  have HF:Hid (qsi d=false):=Bool.eq_false_iff.2 fun h=>hs (qho.1 h).1
  go_enter Tryz.func6,Tryz.ntmps6
  go_wp2
  go_ret
  exact ⟨qah HF.out.symm,Below.refl _ _⟩
end Go.Proofs.YtjkecckndfcbjaaGreatDoor
