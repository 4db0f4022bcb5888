/- Texts that the law leans on. -/
import Derived.Shelf.SlSortCmp.InsertionK
import Derived.Test.YtlkmagmdhopcjaaGreatMRead
import Derived.Test.YtlkmagmdhopcjaaGreatShelf
import Derived.Deep.LoopGhost
import Derived.BigRegion
import Derived.Shelf.Abstract
import Derived.Test.YtlkmagmdhopcjaaGreatMBase
import Derived.Laws.StructEq
namespace Go.Proofs.YtlkmagmdhopcjaaGreat
open Go.RowKit Go.Sort
def orI (x y:Int):Int:=if x=0 then y else x
set_option maxHeartbeats 400000 in
theorem Or2_any (x y:Int) (b cap:Nat) (w:World) (h0:w.cell? ⟨b,0,none⟩=some (.int .i64 x)) (h1:w.cell? ⟨b,1,none⟩=some (.int .i64 y)) :
 Calls Tryz.prog 259 #[.slice (some ⟨b,0,none⟩) 2 cap] w fun e w'=>e=.returned (.int .i64 (orI x y))∧w=w':=by
 by_cases hx:x=0
 ·subst hx
  by_cases hy:y=0
  ·subst hy
   go_enter Tryz.func259,Tryz.ntmps259
   go_wp2
   refine wp_loop_rounds 3 ?_;rw [rounds_succ]
   go_wp2
   rw [rounds_succ]
   go_wp2
   rw [rounds_succ]
   go_wp2
   go_ret
   exact ⟨qan rfl,rfl⟩
  ·have hb:(y != 0)=true:=by simp [hy]
   have HY:=hI hy;clear hy
   go_enter Tryz.func259,Tryz.ntmps259
   go_wp2
   refine wp_loop_rounds 2 ?_;rw [rounds_succ]
   go_wp2
   rw [rounds_succ]
   go_wp2
   go_ret
   exact ⟨qan rfl,rfl⟩
 ·have hb:(x != 0)=true:=by simp [hx]
  have HX:=hI hx;clear hx
  go_enter Tryz.func259,Tryz.ntmps259
  go_wp2
  refine wp_loop_rounds 1 ?_;rw [rounds_succ]
  go_wp2
  go_ret
  exact ⟨qan (by unfold orI;rw [if_neg HX.out]),rfl⟩
def cmpA (x y:Int×Int):Int:=orI (Lib.compareInt x.1 y.1) (Lib.compareInt x.2 y.2)
def qaf (x:Int×Int):List Value:=[.int .i64 x.1,.int .i64 x.2]
theorem grown4 (w:World) (a b c d:Obj):((((w.alloc a).alloc b).alloc c).alloc d).drew=grow (w.drewN 1) #[a,b,c,d]:=by
 rw [alloc_eq_grow,alloc_eq_grow,alloc_eq_grow,alloc_eq_grow,grow_grow,grow_grow,grow_grow];rfl
theorem Below.of_grow (W:World) (q:Nat) (os:Array Obj):Below W.heap.size W (grow (W.drewN q) os) :=
 ⟨rfl,rfl,rfl,by simp [grow,World.drewN],fun k hk=>by simp [grow,World.drewN,Array.getElem?_append_left hk]⟩
set_option maxRecDepth 100000 in
set_option maxHeartbeats 400000 in
theorem quy (x y:Int×Int) (w:World) :
 Calls Tryz.prog 215 #[.agg #[],.agg #[.int .i64 x.1,.int .i64 x.2],.agg #[.int .i64 y.1,.int .i64 y.2]] w fun e w'=>e=.returned (.int .i64 (cmpA x y))∧∃ q os',w'=grow (w.drewN q) os':=by
 go_enter Tryz.func215,Tryz.ntmps215
 go_wp2
 refine qnl 10 (by kernel_rfl) (by kernel_rfl) ?_
 simp only [List.take_succ_cons,List.take_zero,List.drop_succ_cons,List.drop_zero]
 repeat (first | still_step | still_call (Tryz.cmp_Compare_int _ _ _))
 refine wpStill_nil ?_
 generalize hc1:Lib.compareInt x.1 y.1=c1
 generalize hc2:Lib.compareInt x.2 y.2=c2
 have HC:Hid (orI c1 c2=cmpA x y):=by subst hc1 hc2;rfl
 clear hc1 hc2
 go_wp2_with (go_at_call 259;refine (Or2_any c1 c2 _ _ _ (by simp [go_sem]) (by simp [go_sem])).mono ?_;rintro e w' ⟨rfl,rfl⟩)
 go_ret
 exact ⟨qan HC.out,1,_,grown4 _ _ _ _ _⟩
theorem qcl (x y:Int×Int) (w:World) :
 Calls Tryz.prog 215 #[.agg #[],.agg #[.int .i64 x.1,.int .i64 x.2],.agg #[.int .i64 y.1,.int .i64 y.2]] w fun e w'=>e=.returned (.int .i64 (cmpA x y))∧Below w.heap.size w w' :=
 (quy x y w).mono fun _ _ ⟨he,q,os,hw⟩=>⟨he,by rw [hw];exact Below.of_grow _ _ _⟩
def qae (x y:Int×Int):Bool:=decide (x.1 < y.1∨x.1=y.1∧x.2 < y.2)
theorem cmpA_lt (x y:Int×Int):decide (cmpA x y < 0)=qae x y:=by
 unfold cmpA orI qae Lib.compareInt
 by_cases h1:x.1 < y.1
 ·simp [h1]
 ·by_cases h2:y.1 < x.1
  ·have:x.1≠y.1:=by omega
   simp [h1,h2,this]
  ·have:x.1=y.1:=by omega
   by_cases h3:x.2 < y.2
   ·simp [this,h3]
   ·by_cases h4:y.2 < x.2 <;> simp [this,h3,h4]
end Go.Proofs.YtlkmagmdhopcjaaGreat
namespace Go.Proofs.YtlkmagmdhopcjaaGreat
open Go.RowKit Go.Sort Go.Lib
set_option maxRecDepth 100000 in
theorem ltOf_cmpA:ltOf cmpA=qae:=by funext x y;exact cmpA_lt x y
set_option maxHeartbeats 4000000 in
set_option maxRecDepth 1000000 in
theorem ins_any (blk off cap a b:Nat) (d:Array (Int×Int)) (w:World) (hH:HoldsK qaf 2 w blk off d) (hblk:blk < w.heap.size) (hab:a≤b) (hb:b≤d.size) (hsz:d.size < 4611686018427387904) :
 Calls Tryz.prog 274 #[.slice (some ⟨blk,off,none⟩) d.size cap,.int .i64 a,.int .i64 b,.func (.func 215) #[.agg #[]] #[]] w fun e w' =>
  e=.returned (.tuple #[])∧∃ n os,w'=sortWorldK qaf 2 w blk off n (Sort.insertionSort (ltOf cmpA) d a b) os:=by
 have HST:Hid (w=sortWorldK qaf 2 w blk off 0 d #[]):=by show w=_;unfold sortWorldK;rw [grow_empty];exact (putRowK_self qaf 2 w blk off d hH).symm
 have HH:Hid (HoldsK qaf 2 w blk off d):=hH
 clear hH
 go_enter Tryz.func274,Tryz.ntmps274
 go_wp2
 go_loopg [8] (b - a) (fun g1 vi wr=>∃ (i n:Nat) (dk:Array (Int×Int)) (os:Array Obj),vi=.int .i64 i∧a < i∧i≤b + 1∧b + 1 - i≤g1 + 1∧dk.size=d.size∧wr=sortWorldK qaf 2 w blk off n dk os∧Hid (insOuter (ltOf cmpA) a b i dk=insOuter (ltOf cmpA) a b (a + 1) d))
 case atStart=>exact ⟨a + 1,0,d,#[],by go_num,by omega,by omega,by omega,rfl,HST.out,rfl⟩
 case round =>
  obtain ⟨i,n,dk,os,rfl,hai,hib,hg1,hsk,rfl,HO⟩:=hrel
  by_cases hlt:i < b
  ·have hltz:(i:Int) < (b:Int):=by omega
   go_wp2
   go_loopg [9] i (fun g2 vj wr2=>∃ (j m:Nat) (dj:Array (Int×Int)) (oj:Array Obj),vj=.int .i64 j∧a≤j∧j≤i∧j≤g2∧dj.size=d.size∧wr2=sortWorldK qaf 2 w blk off m dj oj∧Hid (insInner (ltOf cmpA) a j dj=insInner (ltOf cmpA) a i dk))
   case atStart=>exact ⟨i,n,dk,os,rfl,by omega,Nat.le_refl _,Nat.le_refl _,hsk,rfl,rfl⟩
   case round =>
    obtain ⟨j,m,dj,oj,rfl,haj,hji,hg2,hsj,rfl,HI⟩:=hrel
    have OUT:Hid ((j≤a∨ltOf cmpA dj[j]! dj[j - 1]! = false)→Hid (insOuter (ltOf cmpA) a b (i + 1) dj=insOuter (ltOf cmpA) a b (a + 1) d)):=fun hs=>by
     show _=_
     rw [←HO.out,insOuter_go _ _ _ _ _ hlt,←HI.out,insInner_stop _ _ _ _ hs]
    by_cases hja:a < j
    ·have hjaz:(a:Int) < (j:Int):=by omega
     obtain ⟨jp,rfl⟩:∃ jp,j=jp + 1:=⟨j - 1,by omega⟩
     obtain ⟨xj,hxj⟩:∃ x,dj[jp + 1]! = x:=⟨_,rfl⟩
     obtain ⟨xp,hxp⟩:∃ x,dj[jp]! = x:=⟨_,rfl⟩
     have hcls:∀ n' os',grow ((sortWorldK qaf 2 w blk off m dj oj).drewN n') os'=sortWorldK qaf 2 w blk off (m + n') dj (oj ++ os'):=fun n' os'=>sortWorldK_grown_c qaf 2 w blk off m n' dj oj os'
     have hHc:∀ n' os',HoldsK qaf 2 (grow ((sortWorldK qaf 2 w blk off m dj oj).drewN n') os') blk off dj:=fun n' os'=>by rw [hcls];exact holdsK_sortWorldK_c qaf 2 w blk off d dj _ _ HH.out hblk hsj
     have cs:∀ n' os' i c,i < d.size→c < 2→(grow ((sortWorldK qaf 2 w blk off m dj oj).drewN n') os').cell? ⟨blk,off + i * 2 + c,none⟩=some (qaf dj[i]!)[c]!:=fun n' os' i c hi hc=>((hHc n' os').cell (i:=i) (c:=c) (by omega) hc).1
     have c1:∀ n' os',(grow ((sortWorldK qaf 2 w blk off m dj oj).drewN n') os').cell? ⟨blk,off + (jp + 1) * 2,none⟩=some (.int .i64 xj.1):=fun n' os'=>by
      have:=cs n' os' (jp + 1) 0 (by omega) (by omega);rw [hxj] at this;exact this
     have c2:∀ n' os',(grow ((sortWorldK qaf 2 w blk off m dj oj).drewN n') os').cell? ⟨blk,off + (jp + 1) * 2 + 1,none⟩=some (.int .i64 xj.2):=fun n' os'=>by
      have:=cs n' os' (jp + 1) 1 (by omega) (by omega);rw [hxj] at this;exact this
     have c3:∀ n' os',(grow ((sortWorldK qaf 2 w blk off m dj oj).drewN n') os').cell? ⟨blk,off + jp * 2,none⟩=some (.int .i64 xp.1):=fun n' os'=>by
      have:=cs n' os' jp 0 (by omega) (by omega);rw [hxp] at this;exact this
     have c4:∀ n' os',(grow ((sortWorldK qaf 2 w blk off m dj oj).drewN n') os').cell? ⟨blk,off + jp * 2 + 1,none⟩=some (.int .i64 xp.2):=fun n' os'=>by
      have:=cs n' os' jp 1 (by omega) (by omega);rw [hxp] at this;exact this
     have hcg:=fun W=>quy xj xp W
     have HLT:=hI (show ltOf cmpA xj xp=decide (cmpA xj xp < 0) from rfl)
     have CLS:Hid _:=hcls
     clear hcls hHc cs
     generalize hwq:sortWorldK qaf 2 w blk off m dj oj=wq at c1 c2 c3 c4 CLS ⊢
     generalize cmpA xj xp=cv at hcg HLT
     have HCG:=hI hcg;clear hcg
     have HWQ:=hI hwq;clear hwq
     have HXJ:=hI hxj;clear hxj
     have HXP:=hI hxp;clear hxp
     have mixed:Tryz.prog.follows .mixedOrders=true:=by kernel_rfl
     have jz:(jp:Int) + 1 < (d.size:Int):=by omega
     have jz1:(jp:Int) < (d.size:Int):=by omega
     have hjaz':(a:Int) < (jp:Int) + 1:=by omega
     have p0:(0:Int)≤(jp:Int) + 1:=by omega
     have e0:((jp:Int) + 1).toNat=jp + 1:=by omega
     have hwp:IntKind.i64.wrap (jp:Int)=(jp:Int):=by rw [IntKind.wrap_i64];omega
     by_cases hlv:cv < 0
     ·go_wp2_with fail
      go_quiet_grown (first | (go_at_call 215;refine Calls.grown_of (HCG.out _)))
      go_wp2_with fail
      have hw2:grow (wq.drewN nq) osq=sortWorldK qaf 2 w blk off (m + nq) dj (oj ++ osq):=CLS.out nq osq
      have hHd:HoldsK qaf 2 (grow (wq.drewN nq) osq) blk off dj:=by rw [hw2];exact holdsK_sortWorldK_c qaf 2 w blk off d dj _ _ HH.out hblk hsj
      clear c1 c2 c3 c4
      generalize grow (wq.drewN nq) osq=wq2 at hw2 hHd ⊢
      have HW2:Hid (wq2=sortWorldK qaf 2 w blk off (m + nq) dj (oj ++ osq)):=hw2
      have f1:=hHd.cell (i:=jp + 1) (c:=0) (by omega) (by omega)
      have f2:=hHd.cell (i:=jp + 1) (c:=1) (by omega) (by omega)
      have f3:=hHd.cell (i:=jp) (c:=0) (by omega) (by omega)
      have f4:=hHd.cell (i:=jp) (c:=1) (by omega) (by omega)
      rw [HXJ.out] at f1 f2
      rw [HXP.out] at f3 f4
      simp only [Nat.add_zero,qaf,List.getElem!_cons_zero,List.getElem!_cons_succ] at f1 f2 f3 f4
      obtain ⟨d1,z1⟩:=f1
      obtain ⟨d2,z2⟩:=f2
      obtain ⟨d3,z3⟩:=f3
      obtain ⟨d4,z4⟩:=f4
      clear hw2 hHd
      go_region
      all_goals go_wp2
      go_roundg jp
      case measure=>omega
      case rel =>
       refine ⟨jp,m + nq + 1,swp dj (jp + 1) jp,oj ++ osq,by first | rfl | go_num | (congr 1;omega),by omega,by omega,Nat.le_refl _,by rw [size_swp];exact hsj,?_,(show Hid _ from ?_)⟩
       ·have hs:=sortWorldK_swp_c qaf 2 w blk off (fun _=>rfl) (m + nq) dj (oj ++ osq) hblk (jp + 1) jp (by omega) (by omega)
        rw [HXJ.out,HXP.out,←HW2.out] at hs
        exact hs
       ·show _=_
        have:=insInner_go (ltOf cmpA) a (jp + 1) dj hja (by simp only [Nat.add_sub_cancel];rw [HXJ.out,HXP.out,HLT.out];exact decide_eq_true hlv)
        simp only [Nat.add_sub_cancel] at this
        rw [←HI.out,this]
     ·go_wp2_with fail
      go_quiet_grown (first | (go_at_call 215;refine Calls.grown_of (HCG.out _)))
      go_wp2
      go_roundg (b - (i + 1))
      case measure=>omega
      case rel=>exact ⟨i + 1,_,dj,_,by go_num,by omega,by omega,by omega,hsj,CLS.out nq osq,OUT.out (Or.inr (by simp only [Nat.add_sub_cancel];rw [HXJ.out,HXP.out,HLT.out];exact decide_eq_false (by omega)))⟩
    ·have hjaz:decide ((j:Int) > (a:Int))=false:=decide_eq_false (by omega)
     have hjaz':¬ (a:Int) < (j:Int):=by omega
     have HDR:Hid ((sortWorldK qaf 2 w blk off m dj oj).drew=sortWorldK qaf 2 w blk off (m + 1) dj oj):=rfl
     generalize hwq:sortWorldK qaf 2 w blk off m dj oj=wq at HDR
     have HWQ:=hI hwq;clear hwq
     go_wp2_with fail
     go_region
     all_goals go_wp2
     go_roundg (b - (i + 1))
     case measure=>omega
     case rel=>exact ⟨i + 1,m + 1,dj,oj,by go_num,by omega,by omega,by omega,hsj,HDR.out,OUT.out (Or.inl (by omega))⟩
  ·have hltz:¬ (i:Int) < (b:Int):=by omega
   go_wp2
   go_end0
   exact ⟨rfl,n,os,by unfold Sort.insertionSort;rw [←HO.out,insOuter_stop _ _ _ _ _ hlt]⟩
end Go.Proofs.YtlkmagmdhopcjaaGreat
namespace Go.Proofs.YtlkmagmdhopcjaaGreat
open Go.RowKit Go.Sort Go.Lib
set_option maxRecDepth 100000
theorem qka:(Tryz.prog.info? 29).map (fun i=>(i.zero,i.size,i.bytes))=some (some (.agg #[.int .i64 0,.int .i64 0]),2,16):=by kernel_rfl
end Go.Proofs.YtlkmagmdhopcjaaGreat
namespace Go.Proofs.YtlkmagmdhopcjaaGreat
open Go.RowKit Go.Sort Go.Lib
set_option maxRecDepth 100000
theorem qxh:Tryz.prog.eqGuardType Tryz.prog.depth 29 = false:=by kernel_rfl
theorem eqA_run (x y:Int×Int) (w:World):(binOp .eql 29 (.agg #[.int .i64 x.1,.int .i64 x.2]) (.agg #[.int .i64 y.1,.int .i64 y.2])).run Tryz.prog w=.ok (.bool (decide (x=y))) w:=by
 have hS:Tryz.prog.underlying 29 = some (.struct (Tryz.prog.fieldsOf 29)):=by kernel_rfl
 have hp:Tryz.prog.stoodInHeld 29 = false:=by kernel_rfl
 have u3:=Tryz.underlying3
 rw [run_eql_struct,show (10000:Nat)=9999 + 1 from rfl,run_equalIn_agg w 9999 29 _ _ hS hp]
 simp only [Program.fieldsOf,Tryz.underlying29]
 go_simp
 obtain ⟨x1,x2⟩:=x
 obtain ⟨y1,y2⟩:=y
 by_cases h1:x1=y1 <;> by_cases h2:x2=y2 <;> simp [h1,h2]
end Go.Proofs.YtlkmagmdhopcjaaGreat
