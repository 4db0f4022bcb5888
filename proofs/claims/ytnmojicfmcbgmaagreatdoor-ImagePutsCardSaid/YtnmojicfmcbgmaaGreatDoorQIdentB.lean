/- Texts that the law leans on. -/
import Derived.Shelf.SlSortCmp.InsertionK
import Derived.Test.YtnmojicfmcbgmaaGreatDoorQRead
import Derived.Test.YtnmojicfmcbgmaaGreatDoorShelf
import Derived.Laws.StructEq
namespace Go.Proofs.YtnmojicfmcbgmaaGreatDoor
open Go.RowKit Go.Sort
def orI (x y:Int):Int:=if x=0 then y else x
def cmpA (x y:Int×Int):Int:=orI (Lib.compareInt x.1 y.1) (Lib.compareInt x.2 y.2)
def qbe (x:Int×Int):List Value:=[.int .i64 x.1,.int .i64 x.2]
theorem grown4 (w:World) (a b c d:Obj):((((w.alloc a).alloc b).alloc c).alloc d).drew=grow (w.drewN 1) #[a,b,c,d]:=by
 rw [alloc_eq_grow,alloc_eq_grow,alloc_eq_grow,alloc_eq_grow,grow_grow,grow_grow,grow_grow];rfl
def qee (x y:Int×Int):Bool:=decide (x.1 < y.1∨x.1=y.1∧x.2 < y.2)
end Go.Proofs.YtnmojicfmcbgmaaGreatDoor
namespace Go.Proofs.YtnmojicfmcbgmaaGreatDoor
open Go.RowKit Go.Sort Go.Lib
set_option maxRecDepth 100000
theorem qxn:Tryz.prog.eqGuardType Tryz.prog.depth 29 = false:=by kernel_rfl
theorem neA_run_I (x y:Int×Int) (w:World):(binOp .neq 29 (.agg #[.int .i64 x.1,.int .i64 x.2]) (.agg #[.int .i64 y.1,.int .i64 y.2])).run Tryz.prog w=.ok (.bool (!decide (x=y))) w:=by
 have hS:Tryz.prog.underlying 29 = some (.struct (Tryz.prog.fieldsOf 29)):=by kernel_rfl
 have hp:Tryz.prog.stoodInHeld 29 = false:=by kernel_rfl
 have u3:=Tryz.underlying3
 rw [run_neq_struct,show (10000:Nat)=9999 + 1 from rfl,run_equalIn_agg w 9999 29 _ _ hS hp]
 simp only [Program.fieldsOf,Tryz.underlying29]
 go_simp
 obtain ⟨x1,x2⟩:=x
 obtain ⟨y1,y2⟩:=y
 by_cases h1:x1=y1 <;> by_cases h2:x2=y2 <;> simp [h1,h2]
set_option maxRecDepth 100000 in
theorem arr_ext_I {α:Type} [Inhabited α] {d1 d2:Array α} (hs:d1.size=d2.size) (h:∀ j,j < d1.size→d1[j]! = d2[j]!):d1=d2 :=
 Array.ext hs fun t h1 h2=>by have:=h t h1;rwa [getElem!_pos d1 t h1,getElem!_pos d2 t h2] at this
set_option maxRecDepth 100000 in
set_option maxHeartbeats 1000000 in
theorem qhu (A1 A2:Option Addr) (c1 c2:Nat) (d1 d2:Array (Int×Int)) (B:Nat) (w:World) (h1:RdK qbe 2 B w A1 d1) (h2:RdK qbe 2 B w A2 d2) (_hn:d1.size≤1000000) (hm:d2.size≤1000000) :
 Calls Tryz.prog 103 #[.slice A1 d1.size c1,.slice A2 d2.size c2] w fun e w'=>e=.returned (.bool (decide (d1=d2)))∧∃ n,w'=w.drewN n:=by
 by_cases hs:d1.size=d2.size
 ·have hb:((d1.size:Int) != (d2.size:Int))=false:=by simp [hs]
  have HS:=hI hs
  have hge:d1.size≤d2.size:=by omega
  clear hs
  go_enter Tryz.func103,Tryz.ntmps103
  go_wp2
  go_loopw [5] (fun i wr=>∃ k n:Nat,k≤d1.size∧i=.int .i64 k∧wr=w.drewN n∧∀ j,j < k→d1[j]! = d2[j]!) (fun i _=>d1.size - (intOf i).toNat)
  case atStart=>exact ⟨0,0,Nat.zero_le _,rfl,rfl,fun j hj=>absurd hj (by omega)⟩
  case round =>
   obtain ⟨k,n,hk,rfl,rfl,hj⟩:=hrel
   have HJ:=hI hj;clear hj
   by_cases hlt:k < d1.size
   ·obtain ⟨b1,o1,rfl,_,f1⟩:=h1.at_ hlt
    obtain ⟨b2,o2,rfl,_,f2⟩:=h2.at_ (i:=k) (by omega)
    have e10:=f1 0 (by omega)
    have e11:=f1 1 (by omega)
    have e20:=f2 0 (by omega)
    have e21:=f2 1 (by omega)
    have hnx:=neA_run_I d1[k]! d2[k]!
    have hgd:=qxn
    have HX:Hid (k < d1.size):=hlt
    generalize hx:d1[k]! = x at e10 e11 hnx
    generalize hy:d2[k]! = y at e20 e21 hnx
    have HXX:=hI hx;clear hx
    have HYY:=hI hy;clear hy
    simp only [Nat.add_zero,qbe,List.getElem!_cons_zero,List.getElem!_cons_succ] at e10 e11 e20 e21
    clear f1 f2
    have kz:(k:Int) < (d1.size:Int):=by omega
    have kz2:(k:Int) < (d2.size:Int):=by omega
    by_cases hxy:x=y
    ·have hd:decide (x=y)=true:=by simp [hxy]
     have HXY:=hI hxy;clear hxy
     rw [hd] at hnx
     clear hd
     go_wp2
     go_quiet (fail)
     go_wp2
     go_roundw
     case rel=>exact ⟨k + 1,_,by omega,by go_num,rfl,fun j hj=>by
      rcases Nat.lt_or_ge j k with h | h
      ·exact HJ.out j h
      ·obtain rfl:j=k:=by omega
       rw [HXX.out,HYY.out];exact HXY.out⟩
     case measure=>simp [intOf];omega
    ·have hd:decide (x=y)=false:=by simp [hxy]
     have HXY:=hI hxy;clear hxy
     rw [hd] at hnx
     clear hd
     go_wp2
     go_quiet (fail)
     go_wp2
     go_ret
     exact ⟨qag (by symm;rw [decide_eq_false_iff_not];rintro rfl;exact HXY.out (by rw [←HXX.out,←HYY.out])),_,World.drewN_drewN _ _ _⟩
   ·go_wp2
    go_ret
    exact ⟨qag (by symm;rw [decide_eq_true_iff];exact arr_ext_I HS.out fun j hj=>HJ.out j (by omega)),n,rfl⟩
 ·have hb:((d1.size:Int) != (d2.size:Int))=true:=by simp;omega
  have HS:=hI hs;clear hs
  go_enter Tryz.func103,Tryz.ntmps103
  go_wp2
  go_ret
  exact ⟨qag (by symm;rw [decide_eq_false_iff_not];rintro rfl;exact HS.out rfl),0,rfl⟩
end Go.Proofs.YtnmojicfmcbgmaaGreatDoor
