/- Texts that the law leans on. -/
import Derived.Shelf.SlSortCmp.NoneTotal
import Derived.Test.YtlkmagmdhopcjaaGreatMRead
import Derived.Test.YtlkmagmdhopcjaaGreatMOwnK
import Derived.Sort.LotD3
import Derived.Test.YtlkmagmdhopcjaaGreatMIdentB
namespace Go.Proofs.YtlkmagmdhopcjaaGreat
open Go.RowKit Go.Sort Go.Lib
theorem qdl (x:Int×Int):(encR x).length=2:=rfl
theorem qvj (x:Int×Int):∀ u ∈ encR x,u.oneCell'=true:=by
 intro u hu
 simp only [encR,List.mem_cons,List.not_mem_nil,or_false] at hu
 rcases hu with rfl | rfl <;> rfl
theorem qfh:(Tryz.prog.info? 124).map (fun i=>(i.zero,i.size,i.bytes))=some (some (.agg #[.int .i64 0,.int .i64 0]),2,16):=by kernel_rfl
set_option maxRecDepth 100000 in
set_option maxHeartbeats 1000000 in
theorem qvk (A:Option Addr) (c:Nat) (d:Array (Int×Int)) (w:World) (h:RdK encR 2 w.heap.size w A d) (hd:d.size≤1000000) :
 Calls Tryz.prog 155 #[.slice A d.size c] w fun e w'=>∃ v,e=.returned v∧w'.ownsRow w.heap.size 124 2 v d.size (flatK encR 2 d).toList∧Below w.heap.size w w':=by
 obtain ⟨i0,hi0,hz0,hz1,hz2⟩:=info_parts qfh
 cases A with
 | none =>
   have h0:d.size=0:=by
    rcases Nat.eq_zero_or_pos d.size with h0 | h0
    ·exact h0
    ·obtain ⟨b,off,e,_⟩:=h h0;cases e
   obtain rfl:d=#[]:=Array.eq_empty_of_size_eq_zero h0
   exact (AnyE.slices_Clone_nil Tryz.laysCloneR 0 c w).mono fun e w' ⟨he,hw⟩=>⟨_,he,qci _ _ _ _ _,by rw [hw];exact Below.refl _ _⟩
 | some ad =>
   have HR:=hI h
   clear h
   have q33:∀ (w:World) (a:Option Addr) (n c n' c':Nat),(binOp .eql 64 (.slice a n c) (.slice none n' c')).run Tryz.prog w=.ok (.bool a.isNone) w:=fun w a n c n' c'=>Lib.run_eql_slice_nil w _ _ a n c n' c' Tryz.underlying64
   go_enter Tryz.func155,Tryz.ntmps155
   go_wp2_with (at_builtin;refine qfg qvj qdl (by decide) rfl (.tmp 5) (.tmp 6) 64 rfl w.heap.size 124 i0 (.agg #[.int .i64 0,.int .i64 0]) 16 Tryz.underlying64 hi0 hz0 hz1 hz2 rfl _ #[] rfl (qcc w 124 encR 2) w.heap.size (some ad) c d rfl (HR.out.alloc (Nat.le_refl _) _) (fun h=>by cases h) (by simp;omega) (by decide) (by simp) ?_;intro v1 w1 hown1 hg1 _)
   go_ret
   have hb1:Below w.heap.size w w1:=(bel1 w _).grown hg1 (by simp) (fun k hk=>((qcc w 124 encR 2).lt k hk).1)
   exact ⟨v1,rfl,by simpa using hown1,hb1⟩
def cmpR (x y:Int×Int):Int:=Lib.compareInt x.1 y.1
theorem qpq (x y:Int×Int):ltOf cmpR x y=decide (x.1 < y.1):=by
 unfold ltOf cmpR Lib.compareInt
 by_cases h1:x.1 < y.1
 ·simp [h1]
 ·by_cases h2:y.1 < x.1 <;> simp [h1,h2]
theorem swoR:SWO (ltOf cmpR) where
 irrefl x:=by rw [qpq];simp
 trans x y z h1 h2:=by rw [qpq] at *;simp at *;omega
 ntrans x y z h1 h2:=by rw [qpq] at *;simp at *;omega
theorem all1_any (x y:Int×Int) (w:World) :
 Calls Tryz.prog 263 #[.agg #[.int .i64 x.1,.int .i64 x.2],.agg #[.int .i64 y.1,.int .i64 y.2]] w fun e w'=>e=.returned (.int .i64 (cmpR x y))∧∃ q os',w'=grow (w.drewN q) os':=by
 have hcon:=fun W=>Tryz.cmp_Compare_int x.1 y.1 W
 have HC:=hI hcon;clear hcon
 have HF:Hid (Lib.compareInt x.1 y.1=cmpR x y):=rfl
 generalize Lib.compareInt x.1 y.1=c at HC HF
 go_enter Tryz.func263,Tryz.ntmps263
 go_wp2_with (go_at_call 253;refine (HC.out _).mono ?_;rintro e w' ⟨rfl,rfl⟩)
 go_ret
 exact ⟨qan HF.out,0,_,by rw [alloc_eq_grow,alloc_eq_grow,grow_grow];rfl⟩
theorem cmpLaysR (blk:Nat) (size:Nat) (w:World):CmpLays Tryz.prog 263 #[] encR 2 cmpR blk 0 size w:=by
 intro m os dk _ x y
 exact all1_any x y _
theorem qku {w1:World} {g:Nat} (w:World) (hb:Below w.heap.size w w1) (hg:w.heap.size≤g) (n:Nat) (d:Array (Int×Int)) (os:Array Obj):Below w.heap.size w (sortWorldK encR 2 w1 g 0 n d os):=by
 refine hb.trans ⟨rfl,rfl,rfl,size_sortWorldK_c encR 2 w1 g 0 n d os,fun i hi=>?_⟩
 have hi1:i < w1.heap.size:=Nat.lt_of_lt_of_le hi hb.size
 show ((putRowK encR 2 (Sort.ahead w1 n) g 0 d).heap ++ os)[i]?=_
 rw [Array.getElem?_append_left (by rw [size_putRowK];exact hi1)]
 show ((Sort.ahead w1 n).heap.modify g _)[i]?=_
 rw [Array.getElem?_modify,if_neg (by omega)]
 rfl
def SortR (d d':Array (Int×Int)):Prop:=d'.size=d.size∧(∀ x,x ∈ d'↔x ∈ d)∧∀ i j,i < j→j < d'.size→d'[i]!.1≤d'[j]!.1
set_option maxHeartbeats 2000000 in
set_option maxRecDepth 100000 in
theorem all_any (A:Option Addr) (c:Nat) (d:Array (Int×Int)) (w:World) (h:RdK encR 2 w.heap.size w A d) (hd:d.size≤1000000) :
 Calls Tryz.prog 217 #[.slice A d.size c] w fun e w'=>∃ d' A' c' b,e=.returned (.func (.func 264) #[] #[.pointer (some ⟨b,0,none⟩)])∧SortR d d'∧w.heap.size≤b∧b < w'.heap.size∧w'.cell? ⟨b,0,none⟩=some (.slice A' d'.size c')∧RdK encR 2 w'.heap.size w' A' d'∧(∀ g off,A'=some ⟨g,off,none⟩→w.heap.size≤g∧g < w'.heap.size)∧Below w.heap.size w w':=by
 have hC:=qvk A c d w h hd
 have HC:=hI hC
 clear hC h
 go_enter Tryz.func217,Tryz.ntmps217
 go_wp2_with fail
 refine HC.out.mono ?_
 rintro e w1 ⟨v,rfl,hown,hb1⟩
 by_cases hn:v=.slice none 0 0
 ·subst hn
  have h0:d.size=0:=by
   obtain ⟨_,⟨_,h0⟩ | ⟨g,cap,cur,hv,_⟩⟩:=hown
   ·exact h0
   ·cases hv
  clear hown
  have hS:=fun W=>AnyF.slices_SortFunc_none Tryz.laysSortR none 0 (.func (.func 263) #[] #[]) W
  have HS:=hI hS
  clear hS
  go_wp2_with fail
  refine (HS.out _).mono ?_
  rintro e w2 ⟨rfl,rfl⟩
  go_wp2
  go_ret
  have hz:=hb1.size
  refine ⟨#[],none,0,w1.heap.size,rfl,⟨h0.symm,?_,?_⟩,by omega,by simp,qbb w1 _ _ 0,fun h=>absurd h (by decide),(fun _ _ e=>by cases e),qab hb1 _⟩
  ·have e0:d=#[]:=Array.eq_empty_of_size_eq_zero h0
   intro x;rw [e0]
  ·intro i j _ hj
   exact absurd hj (by simp)
 ·obtain ⟨g,cap,rfl,hg1,hg2,hH⟩:=qbo hown hn
  clear hown hn
  have hH2:HoldsK encR 2 (w1.alloc (.cells #[.slice (some ⟨g,0,none⟩) d.size cap] 64)) g 0 d:=fun t ht=>by
   have:=hH t ht
   exact ⟨(World.cell?_alloc_lt w1 _ ⟨g,0 + t,none⟩ hg2).trans this.1,(World.frozen?_alloc_old w1 _ ⟨g,0 + t,none⟩ (by show g≠w1.heap.size;omega)).trans this.2⟩
  have hS:=AnyQ.slices_SortFunc Tryz.laysSortR 2 Tryz.isAgg124 Tryz.sizeOf124 encR qdl qvj cmpR swoR 263 #[] g 0 cap d _ (enters_of Tryz.func263 (by kernel_rfl) rfl) (cmpLaysR g d.size _) hH2 (by simp;omega) (by omega)
  have HS:=hI hS
  have HH:=hI hH2
  clear hS hH hH2
  go_wp2_with fail
  refine HS.out.mono ?_
  rintro e w2 ⟨rfl,d',n,os,hp,hs,hw2⟩
  have hz:=hb1.size
  have hz2:g < (w1.alloc (.cells #[.slice (some ⟨g,0,none⟩) d.size cap] 64)).heap.size:=by simp;omega
  have hH3:HoldsK encR 2 w2 g 0 d':=by rw [hw2];exact holdsK_sortWorldK_c encR 2 _ g 0 d d' n os HH.out hz2 hp.1
  have hB3:Below w.heap.size w w2:=by rw [hw2];exact qku w (qab hb1 _) hg1 n d' os
  have hZ3:w1.heap.size + 1≤w2.heap.size:=by rw [hw2];have:=size_sortWorldK_c encR 2 (w1.alloc (.cells #[.slice (some ⟨g,0,none⟩) d.size cap] 64)) g 0 n d' os;simpa using this
  have hC3:w2.cell? ⟨w1.heap.size,0,none⟩=some (.slice (some ⟨g,0,none⟩) d.size cap):=by
   rw [hw2]
   unfold sortWorldK
   rw [cell?_grow _ _ _ (by rw [size_putRowK];simp [Sort.ahead]),cell?_putRowK_other _ _ _ _ _ _ _ (by show w1.heap.size≠g;omega)]
   exact qbb w1 _ _ 0
  clear hw2
  go_wp2
  go_ret
  refine ⟨d',some ⟨g,0,none⟩,cap,w1.heap.size,rfl,⟨hp.1,?_,?_⟩,by omega,by omega,by rw [hp.1];exact hC3,RdK.of_holds hH3 (by omega),(fun g' off' e=>by injection e with e;injection e with e1 _;omega),hB3⟩
  ·intro x
   have e1:d'.extract 0 d.size=d':=by rw [←hp.1];simp
   have e2:d.extract 0 d.size=d:=by simp
   have:=hp.2.2
   rw [e1,e2] at this
   have:=this.mem_iff (a:=x)
   simpa using this
  ·intro i j hi hj
   have:=hs i j (Nat.zero_le _) hi (by rw [←hp.1];exact hj)
   rw [qpq] at this
   simpa using this
end Go.Proofs.YtlkmagmdhopcjaaGreat
namespace Go.Proofs.YtlkmagmdhopcjaaGreat
open Go.RowKit Go.Sort Go.Lib
structure Srt (w:World) (blk off:Nat) (d:Array (Int×Int)) (w':World):Prop where
 holds:HoldsK qaf 2 w' blk off d
 lt:blk < w.heap.size
 size:w.heap.size≤w'.heap.size
 block:∀ g,g < w.heap.size→g≠blk→w'.heap[g]?=w.heap[g]?
 os:w'.os=w.os
 tape:w'.tape=w.tape
 output:w'.output=w.output
section
variable {w w1 w2:World} {blk off:Nat} {d d2:Array (Int×Int)}
theorem Srt.refl (h:HoldsK qaf 2 w blk off d) (hl:blk < w.heap.size):Srt w blk off d w:=⟨h,hl,Nat.le_refl _,fun _ _ _=>rfl,rfl,rfl,rfl⟩
theorem Srt.lt1 (h:Srt w blk off d w1):blk < w1.heap.size:=Nat.lt_of_lt_of_le h.lt h.size
theorem Srt.below (h:Srt w blk off d w1) (hb:RowKit.Below w1.heap.size w1 w2):Srt w blk off d w2 :=
 ⟨fun t ht=>⟨(hb.cell (p:=⟨blk,off + t,none⟩) h.lt1).trans (h.holds t ht).1,(hb.frozen (p:=⟨blk,off + t,none⟩) h.lt1).trans (h.holds t ht).2⟩,h.lt,Nat.le_trans h.size hb.size,
  fun g hg hne=>(hb.block g (Nat.lt_of_lt_of_le hg h.size)).trans (h.block g hg hne),hb.os.trans h.os,hb.tape.trans h.tape,hb.output.trans h.output⟩
theorem Srt.trans (h:Srt w blk off d w1) (k:Srt w1 blk off d2 w2):Srt w blk off d2 w2 :=
 ⟨k.holds,h.lt,Nat.le_trans h.size k.size,fun g hg hne=>(k.block g (Nat.lt_of_lt_of_le hg h.size) hne).trans (h.block g hg hne),k.os.trans h.os,k.tape.trans h.tape,k.output.trans h.output⟩
theorem Srt.swap (h:Srt w blk off d w1) {i j:Nat} (hi:i < d.size) (hj:j < d.size):Srt w blk off (swp d i j) ((w1.drew.setCells blk (off + i * 2) (qaf d[j]!)).setCells blk (off + j * 2) (qaf d[i]!)):=by
 have e1:sortWorldK qaf 2 w1 blk off 0 d #[]=w1:=by unfold sortWorldK;rw [grow_empty];exact putRowK_self qaf 2 w1 blk off d h.holds
 have e2:=sortWorldK_swp_c qaf 2 w1 blk off (fun _=>rfl) 0 d #[] h.lt1 i j hi hj
 rw [e1] at e2
 rw [e2]
 refine ⟨holdsK_sortWorldK_c qaf 2 w1 blk off d _ _ _ h.holds h.lt1 (size_swp _ _ _),h.lt,Nat.le_trans h.size (size_sortWorldK_c qaf 2 w1 blk off _ _ _),fun g hg hne=>?_,h.os,h.tape,h.output⟩
 have hg1:g < w1.heap.size:=Nat.lt_of_lt_of_le hg h.size
 refine Eq.trans ?_ (h.block g hg hne)
 show ((putRowK qaf 2 (Sort.ahead w1 _) blk off _).heap ++ _)[g]?=_
 rw [Array.getElem?_append_left (by rw [size_putRowK];exact hg1)]
 show ((Sort.ahead w1 _).heap.modify blk _)[g]?=_
 rw [Array.getElem?_modify,if_neg (Ne.symm hne)]
 rfl
theorem Srt.cells (h:Srt w blk off d w1) {i:Nat} (hi:i < d.size) (p:ExtW w1):p.to.cell? ⟨blk,off + i * 2,none⟩=some (.int .i64 d[i]!.1)∧p.to.cell? ⟨blk,off + i * 2 + 1,none⟩=some (.int .i64 d[i]!.2) :=
 ⟨((h.below p.h).holds.cell (i:=i) (c:=0) hi (by decide)).1,((h.below p.h).holds.cell (i:=i) (c:=1) hi (by decide)).1⟩
theorem Srt.own (h:Srt w blk off d w1) {i:Nat} (hi:i < d.size):w1.cell? ⟨blk,off + i * 2,none⟩=some (.int .i64 d[i]!.1)∧w1.frozen? ⟨blk,off + i * 2,none⟩=false∧w1.cell? ⟨blk,off + i * 2 + 1,none⟩=some (.int .i64 d[i]!.2)∧w1.frozen? ⟨blk,off + i * 2 + 1,none⟩=false :=
 ⟨(h.holds.cell (i:=i) (c:=0) hi (by decide)).1,(h.holds.cell (i:=i) (c:=0) hi (by decide)).2,(h.holds.cell (i:=i) (c:=1) hi (by decide)).1,(h.holds.cell (i:=i) (c:=1) hi (by decide)).2⟩
end
theorem qbu (x y:Int×Int):qae x y=decide (cmpA x y < 0):=(cmpA_lt x y).symm
end Go.Proofs.YtlkmagmdhopcjaaGreat
