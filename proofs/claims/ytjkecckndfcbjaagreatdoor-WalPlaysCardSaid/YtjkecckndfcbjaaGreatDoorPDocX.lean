/- Texts that the law leans on. -/
import Derived.Deep.CutRange
import Derived.Deep.CutBlock
import Derived.Deep.RegionLaw
import Derived.Deep.DrawnRows
import Derived.Test.YtjkecckndfcbjaaGreatDoorPMsgV
import Derived.Test.YtjkecckndfcbjaaGreatDoorPDocR
import Derived.Test.YtjkecckndfcbjaaGreatDoorPDocQ
import Derived.Test.YtjkecckndfcbjaaGreatDoorPRecA
namespace Go.Proofs.YtjkecckndfcbjaaGreatDoor
open Go.RowKit Go.Sort Nb
theorem qjo {s:List UInt8} {most:Nat} {r:RS} (h:r.pos≤s.length):(numR s most r).1.pos≤s.length:=by
 unfold numR
 split
 ·exact h
 ·split
  ·exact h
  ·rename_i n k hg
   split
   ·exact h
   ·have:=(qcn hg).2.2.1
    rw [List.length_drop] at this
    show r.pos + k≤_
    omega
theorem textR_pos {s:List UInt8} {most:Nat} {r:RS} (h:r.pos≤s.length):(qcb s most r).1.pos≤s.length:=by
 unfold qcb
 split
 ·exact h
 ·split
  ·exact h
  ·rename_i n k hg
   split
   ·exact h
   ·split
    ·exact h
    ·have:=(qcn hg).2.2.1
     rw [List.length_drop] at this
     show r.pos + k + n≤_
     omega
theorem rowR_pos {s:List UInt8} {most:Nat} {r:RS} (h:r.pos≤s.length):(rowR s most r).1.pos≤s.length:=by
 unfold rowR
 split
 ·exact h
 ·split
  ·exact h
  ·rename_i l k hg
   have:=(qmx hg).1
   rw [List.length_drop] at this
   show r.pos + k≤_
   omega
theorem qko {s:List UInt8} {most:Nat}:∀ (k:Nat) {r:RS},r.pos≤s.length→(qcj s most k r).1.pos≤s.length
 | 0,_,h=>h
 | k + 1,r,h=>by rw [qcj];exact qko k (qjo h)
def nC (l:List Nat):Array Value:=((l ++ List.replicate (11 - l.length) 0).map fun n=>Value.int .i64 ((n:Nat):Int)).toArray
theorem nC_at {l:List Nat} {j:Nat} (h:l.length≤11) (hj:j < 11):(nC l)[j]?=some (.int .i64 ((l.getD j 0:Nat):Int)):=by
 unfold nC
 rw [List.getElem?_toArray,List.getElem?_map]
 rcases Nat.lt_or_ge j l.length with h1 | h1
 ·rw [List.getElem?_append_left h1,List.getElem?_eq_getElem h1]
  simp [h1]
 ·rw [List.getElem?_append_right h1,List.getElem?_replicate,if_pos (by omega)]
  simp [List.getElem?_eq_none h1]
theorem nC_set {l:List Nat} {n:Nat} (h:l.length < 11):(nC l).setIfInBounds l.length (.int .i64 (n:Int))=nC (l ++ [n]):=by
 have hs:(nC l).size=11:=by unfold nC;simp;omega
 have hs2:(nC (l ++ [n])).size=11:=by unfold nC;simp;omega
 apply Array.ext_getElem?
 intro j
 rcases Nat.lt_or_ge j 11 with hj | hj
 ·rw [nC_at (by simp;omega) hj]
  by_cases e:l.length=j
  ·subst e
   rw [Array.getElem?_setIfInBounds_self_of_lt (by omega)]
   simp
  ·rw [Array.getElem?_setIfInBounds_ne e,nC_at (by omega) hj]
   congr 3
   rcases Nat.lt_or_ge j l.length with h1 | h1
   ·simp [List.getElem?_append_left h1]
   ·have h2:l.length + 1≤j:=by omega
    rw [List.getD_eq_getElem?_getD,List.getD_eq_getElem?_getD,List.getElem?_eq_none h1,List.getElem?_eq_none (by simp;omega)]
 ·rw [Array.getElem?_eq_none (by simp;omega),Array.getElem?_eq_none (by omega)]
theorem heap4 {w:World} {g:Nat} {y0 y1 y2 y3:Value} {T:TypeId} (h:w.heap[g]?=some (.cells #[y0,y1,y2,y3] T (0,0))) (z0 z1 z2 z3:Value) :
 ((((w.setCell ⟨g,0,none⟩ z0).setCell ⟨g,1,none⟩ z1).setCell ⟨g,2,none⟩ z2).setCell ⟨g,3,none⟩ z3).heap[g]?=some (.cells #[z0,z1,z2,z3] T (0,0)):=by
 have h0:(w.setCell ⟨g,0,none⟩ z0).heap[g]?=some (.cells #[z0,y1,y2,y3] T (0,0)):=qae h 0 z0
 have h1:((w.setCell ⟨g,0,none⟩ z0).setCell ⟨g,1,none⟩ z1).heap[g]?=some (.cells #[z0,z1,y2,y3] T (0,0)):=qae h0 1 z1
 have h2:(((w.setCell ⟨g,0,none⟩ z0).setCell ⟨g,1,none⟩ z1).setCell ⟨g,2,none⟩ z2).heap[g]?=some (.cells #[z0,z1,z2,y3] T (0,0)):=qae h1 2 z2
 exact qae h2 3 z3
theorem far4 {w:World} {g i:Nat} (hi:i≠g) (z0 z1 z2 z3:Value):((((w.setCell ⟨g,0,none⟩ z0).setCell ⟨g,1,none⟩ z1).setCell ⟨g,2,none⟩ z2).setCell ⟨g,3,none⟩ z3).heap[i]?=w.heap[i]?:=by
 rw [Below.heap_setCell _ _ _ _ hi,Below.heap_setCell _ _ _ _ hi,Below.heap_setCell _ _ _ _ hi,Below.heap_setCell _ _ _ _ hi]
theorem same4 (a:World) (g:Nat) (z0 z1 z2 z3:Value):a.grownBy ((((a.setCell ⟨g,0,none⟩ z0).setCell ⟨g,1,none⟩ z1).setCell ⟨g,2,none⟩ z2).setCell ⟨g,3,none⟩ z3) (some g) :=
 qag (qag (qag (qag (World.grownBy.refl a (some g)) (p:=⟨g,0,none⟩) rfl z0) (p:=⟨g,1,none⟩) rfl z1) (p:=⟨g,2,none⟩) rfl z2) (p:=⟨g,3,none⟩) rfl z3
theorem bel4 {w a:World} {g:Nat} (h:Below w.heap.size w a) (hg:w.heap.size≤g) (z0 z1 z2 z3:Value):Below w.heap.size w ((((a.setCell ⟨g,0,none⟩ z0).setCell ⟨g,1,none⟩ z1).setCell ⟨g,2,none⟩ z2).setCell ⟨g,3,none⟩ z3) :=
 (((h.setCell (p:=⟨g,0,none⟩) hg z0).setCell (p:=⟨g,1,none⟩) hg z1).setCell (p:=⟨g,2,none⟩) hg z2).setCell (p:=⟨g,3,none⟩) hg z3
theorem qci {w:World} {g:Nat} {z0 z1 z2 z3:Value} {T:TypeId} (h:w.heap[g]?=some (.cells #[z0,z1,z2,z3] T (0,0))) :
 w.cell? ⟨g,0,none⟩=some z0∧w.frozen? ⟨g,0,none⟩=false∧w.cell? ⟨g,1,none⟩=some z1∧w.frozen? ⟨g,1,none⟩=false∧w.cell? ⟨g,2,none⟩=some z2∧w.frozen? ⟨g,2,none⟩=false∧w.cell? ⟨g,3,none⟩=some z3∧w.frozen? ⟨g,3,none⟩=false:=by
 refine ⟨?_,?_,?_,?_,?_,?_,?_,?_⟩
 all_goals first | exact Lib.frozen_of_heap h _ | (rw [qac h];rfl)
structure DT (w:World) (s:ByteArray) (r:RS) (pc:ByteArray) (l:List Nat) (wr:World):Prop where
 res:wr.heap[w.heap.size]?=some (.cells (mCs 0 0 0 0 0 0 0 0 ⟨#[]⟩ 0 0 (.slice none 0 0) (.slice none 0 0) 0) 247 (0,0))
 rd:wr.heap[w.heap.size + 1]?=some (.cells #[.string s,.int .i64 (r.pos:Int),.string pc,.int .i64 (r.e:Int)] 175 (0,0))
 nm:wr.heap[w.heap.size + 2]?=some (.cells (nC l) 261 (0,0))
 bl:Below w.heap.size w wr
theorem DT.next {w:World} {s:ByteArray} {r:RS} {pc:ByteArray} {l:List Nat} {wr w1:World} (h:DT w s r pc l wr) (hb:Below wr.heap.size wr w1):DT w s r pc l w1 :=
 ⟨(hb.block _ (qaa h.res)).trans h.res,(hb.block _ (qaa h.rd)).trans h.rd,(hb.block _ (qaa h.nm)).trans h.nm,qad h.bl hb⟩
theorem DT.store {w:World} {s:ByteArray} {r:RS} {pc:ByteArray} {l:List Nat} {wr:World} (h:DT w s r pc l wr) (r':RS) (pc':ByteArray) :
 DT w s r' pc' l ((((wr.setCell ⟨w.heap.size + 1,0,none⟩ (.string s)).setCell ⟨w.heap.size + 1,1,none⟩ (.int .i64 (r'.pos:Int))).setCell ⟨w.heap.size + 1,2,none⟩ (.string pc')).setCell ⟨w.heap.size + 1,3,none⟩ (.int .i64 (r'.e:Int))) :=
 ⟨(far4 (by omega) _ _ _ _).trans h.res,heap4 h.rd _ _ _ _,(far4 (by omega) _ _ _ _).trans h.nm,bel4 h.bl (by omega) _ _ _ _⟩
theorem DT.num {w:World} {s:ByteArray} {r:RS} {pc:ByteArray} {l:List Nat} {wr:World} (h:DT w s r pc l wr) (hl:l.length < 11) (n:Nat):DT w s r pc (l ++ [n]) (wr.setCell ⟨w.heap.size + 2,l.length,none⟩ (.int .i64 (n:Int))) :=
 ⟨(Below.heap_setCell _ _ _ _ (by simp)).trans h.res,(Below.heap_setCell _ _ _ _ (by simp)).trans h.rd,by rw [qae h.nm,nC_set hl],h.bl.setCell (by simp) _⟩
end Go.Proofs.YtjkecckndfcbjaaGreatDoor
namespace Go.Proofs.YtjkecckndfcbjaaGreatDoor
open Go.RowKit Go.Sort Nb
attribute [local go_sem ↓] Go.wp_at_zero Go.wp_at_succ
def DTakeP (s:ByteArray) (e:Ending) (w':World):Prop:=∃ m,e=.returned (.tuple #[msgV m,.int .i64 (qda s.data.toList:Int)])∧RdM w' m∧(qda s.data.toList≠0→m=zM)∧(qda s.data.toList=0→∃ aA aC mA mC,m=pmOf (qbb s.data.toList) aA aC mA mC)
def DTakePB (B:Nat) (s:ByteArray) (e:Ending) (w':World):Prop:=∃ m,e=.returned (.tuple #[msgV m,.int .i64 (qda s.data.toList:Int)])∧RdM w' m∧(qda s.data.toList≠0→m=zM)∧(qda s.data.toList=0→∃ aA aC mA mC,m=pmOf (qbb s.data.toList) aA aC mA mC)∧(∀ a,m.aA=some a→B≤a.block)∧(∀ a,m.mA=some a→B≤a.block)
theorem DTakePB.take {B:Nat} {s:ByteArray} {e:Ending} {w':World} (h:DTakePB B s e w'):DTakeP s e w':=by
 obtain ⟨m,h1,h2,h3,h4,-,-⟩:=h
 exact ⟨m,h1,h2,h3,h4⟩
def DL1 (w:World) (s:ByteArray) (iv:Value) (wr:World):Prop:=∃ (k:Nat) (pc:ByteArray),iv=.int .i64 (k:Int)∧k≤8∧DT w s (qcj s.data.toList 2000000 k ⟨0,0⟩).1 pc (qcj s.data.toList 2000000 k ⟨0,0⟩).2 wr
def DL2 (w:World) (s:ByteArray) (r:RS) (l:List Nat) (iv:Value) (wr:World):Prop:=∃ (k j:Nat) (pc:ByteArray),iv=.int .i64 (j:Int)∧j=8 + k∧k≤3∧DT w s (qcj s.data.toList 2000000 k r).1 pc (l ++ (qcj s.data.toList 2000000 k r).2) wr
theorem RdI.grownB {B:Nat} {w w':World} {A:Option Addr} {d:Array Int} (h:RdI B w A d) {g:Nat} (hg:w.grownBy w' (some g)) (hB:B≤g) (hB2:B≤w.heap.size):RdI w'.heap.size w' A d:=fun h0=>by
 obtain ⟨b,off,e,hlt,hc⟩:=h h0
 exact ⟨b,off,e,Nat.lt_of_lt_of_le hlt (Nat.le_trans hB2 hg.size),fun t ht=>hg.cell (hc t ht) (by intro e';injection e' with e';simp only at e';omega)⟩
def ReadM (g:Nat) (cs:Value→Array Value) (l:List Nat) (W:World) (iv:Value) (wr:World):Prop:=∃ i:Nat,iv=.int .i64 (i:Int)∧ReadL g cs l W (.int .i64 ((i:Int) + 1)) wr
theorem ReadM.of {g:Nat} {cs:Value→Array Value} {l:List Nat} {W wr:World} {i:Nat} (h:ReadL g cs l W (.int .i64 ((i:Int) + 1 + 2)) wr):ReadM g cs l W (.int .i64 ((i:Int) + 2)) wr :=
 ⟨i + 2,quy (by omega),by rw [show (((i + 2:Nat):Int) + 1)=(i:Int) + 1 + 2 by omega];exact h⟩
theorem heap_new3 (w:World) (a b o:Obj):(((w.alloc a).alloc b).alloc o).heap[w.heap.size + 2]?=some o:=by
 have h:=qhs (w.alloc a) b o
 have e:(w.alloc a).heap.size=w.heap.size + 1:=by simp
 rw [e] at h
 exact h
theorem heap_old2 (w:World) (a b o:Obj):(((w.alloc a).alloc b).alloc o).heap[w.heap.size + 1]?=some b:=(Below.heap_alloc _ _ _ (by simp)).trans (qhs w a b)
theorem heap_old3 (w:World) (a b o:Obj):(((w.alloc a).alloc b).alloc o).heap[w.heap.size]?=some a:=(Below.heap_alloc _ _ _ (by simp;omega)).trans ((Below.heap_alloc _ _ _ (by simp)).trans (qcp w a))
theorem DT.start (w:World) (s:ByteArray):DT w s ⟨0,0⟩ ⟨#[]⟩ [] (((w.alloc (.cells (mCs 0 0 0 0 0 0 0 0 ⟨#[]⟩ 0 0 (.slice none 0 0) (.slice none 0 0) 0) 247)).alloc (.cells #[.string s,.int .i64 0,.string ⟨#[]⟩,.int .i64 0] 175)).alloc (.cells (nC []) 261)) :=
 ⟨heap_old3 _ _ _ _,heap_old2 _ _ _ _,heap_new3 _ _ _ _,qab (qab (bel1 w _) _) _⟩
theorem DL1.step {w:World} {s:ByteArray} {k n:Nat} {r r':RS} {pc pc':ByteArray} {l:List Nat} {w1:World} {o:Obj} (hk:k < 8) (hx:qcj s.data.toList 2000000 k ⟨0,0⟩=(r,l)) (hR:numR s.data.toList 2000000 r=(r',n)) (h:DT w s r pc l w1) :
 DL1 w s (.int .i64 ((k:Int) + 1)) ((((((w1.setCell ⟨w.heap.size + 1,0,none⟩ (.string s)).setCell ⟨w.heap.size + 1,1,none⟩ (.int .i64 (r'.pos:Int))).setCell ⟨w.heap.size + 1,2,none⟩ (.string pc')).setCell ⟨w.heap.size + 1,3,none⟩ (.int .i64 (r'.e:Int))).setCell ⟨w.heap.size + 1 + 1,k,none⟩ (.int .i64 (n:Int))).alloc o):=by
 have hl:l.length=k:=by have:=qdp s.data.toList 2000000 k ⟨0,0⟩;rw [hx] at this;exact this
 refine ⟨k + 1,pc',quy (by omega),by omega,?_⟩
 rw [qiu,hx,hR]
 have:=(h.store r' pc').num (by omega) n
 rw [hl] at this
 exact this.next (bel1 _ o)
theorem DL2.step {w:World} {s:ByteArray} {k j n:Nat} {r0 r r':RS} {pc pc':ByteArray} {l0 l:List Nat} {w1:World} {o:Obj} (hk:k < 3) (hj:j=8 + k) (hl0:l0.length=8) (hx:qcj s.data.toList 2000000 k r0=(r,l)) (hR:numR s.data.toList 2000000 r=(r',n)) (h:DT w s r pc (l0 ++ l) w1) :
 DL2 w s r0 l0 (.int .i64 ((j:Int) + 1)) ((((((w1.setCell ⟨w.heap.size + 1,0,none⟩ (.string s)).setCell ⟨w.heap.size + 1,1,none⟩ (.int .i64 (r'.pos:Int))).setCell ⟨w.heap.size + 1,2,none⟩ (.string pc')).setCell ⟨w.heap.size + 1,3,none⟩ (.int .i64 (r'.e:Int))).setCell ⟨w.heap.size + 1 + 1,j,none⟩ (.int .i64 (n:Int))).alloc o):=by
 have hl:l.length=k:=by have:=qdp s.data.toList 2000000 k r0;rw [hx] at this;exact this
 refine ⟨k + 1,j + 1,pc',quy (by omega),by omega,by omega,?_⟩
 rw [qiu,hx,hR]
 have:=(h.store r' pc').num (by simp;omega) n
 rw [List.length_append,hl0,hl,←hj,List.append_assoc] at this
 exact this.next (bel1 _ o)
set_option maxRecDepth 100000 in
set_option maxHeartbeats 8000000 in
theorem dTakeB_of (hchk:∀ (m:PM) (W:World),RdM W m→Calls Tryz.prog 158 #[msgV m] W fun e w'=>e=.returned (.int .i64 (chkM m))∧Below W.heap.size W w') (s:ByteArray) (w:World) (hs:s.size≤1000000) :
 Calls Tryz.prog 151 #[.string s] w fun e w'=>DTakePB w.heap.size s e w'∧Below w.heap.size w w':=by
 have hsl:s.data.toList.length=s.size:=by simp
 have HNM:Hid (∀ (pc:ByteArray) (r r':RS) (n:Nat) (W:World),r.pos≤s.size→numR s.data.toList 2000000 r=(r',n)→Calls Tryz.prog 106 #[.agg #[.string s,.int .i64 (r.pos:Int),.string pc,.int .i64 (r.e:Int)],.int .i64 2000000] W fun e w'=>InP s (r',n) W e w'):=fun pc r r' n W hp hR=>by
  have:=qnl s pc r 2000000 W hp hs
  rw [hR,show ((2000000:Nat):Int)=2000000 by omega] at this
  exact this
 have HCK:=hI hchk
 have HSL:=hI hsl
 clear hchk hsl
 go_enter Tryz.func151,Tryz.ntmps151
 go_wp2
 go_loopw [6] (fun iv wr=>DL1 w s iv wr) (fun i _=>8 - (intOf i).toNat)
 case atStart =>
  exact ⟨0,⟨#[]⟩,rfl,by omega,DT.start w s⟩
 case round =>
  obtain ⟨k,pc,rfl,hk,hdt⟩:=hrel
  have hpos:(qcj s.data.toList 2000000 k ⟨0,0⟩).1.pos≤s.size:=by rw [←HSL.out];exact qko k (Nat.zero_le _)
  rcases hx:qcj s.data.toList 2000000 k ⟨0,0⟩ with ⟨r,l⟩
  rw [hx] at hdt hpos
  have HX:=hI hx
  have HDT:=hI hdt
  clear hx hdt
  dsimp only at hpos
  by_cases hlt:k < 8
  ·rcases hR:numR s.data.toList 2000000 r with ⟨r',n⟩
   have HR:=hI hR
   have HNc:=hI (HNM.out pc r r' n wr hpos hR)
   have kz:(k:Int) < 8:=by omega
   have k0:(0:Int)≤(k:Int):=by omega
   have k11:(k:Int) < 11:=by omega
   obtain ⟨p0,-,p1,-,p2,-,p3,-⟩:=qci HDT.out.rd
   clear hR
   go_wp2_with fail
   refine HNc.out.mono ?_
   rintro e w1 ⟨hb1,pc',rfl⟩
   have HD1:=hI (HDT.out.next hb1)
   obtain ⟨c0,f0,c1,f1,c2,f2,c3,f3⟩:=qci HD1.out.rd
   have z1:w.heap.size + 1 < w1.heap.size:=qaa HD1.out.rd
   have z2:w.heap.size + 2 < w1.heap.size:=qaa HD1.out.nm
   have hl:l.length=k:=by have:=qdp s.data.toList 2000000 k ⟨0,0⟩;rw [HX.out] at this;exact this
   have ck:w1.cell? ⟨w.heap.size + 2,k,none⟩=some (.int .i64 ((l.getD k 0:Nat):Int)):=by rw [qac HD1.out.nm,nC_at (by omega) (by omega)]
   have fk:w1.frozen? ⟨w.heap.size + 2,k,none⟩=false:=Lib.frozen_of_heap HD1.out.nm k
   clear p0 p1 p2 p3 hb1 hl
   unfold inV
   go_wp2
   go_roundw
   case rel=>exact DL1.step hlt HX.out HR.out HD1.out
   case measure=>simp [intOf];omega
  ·obtain rfl:k=8:=by omega
   have HX8:Hid (R8 s.data.toList=(r,l)):=HX.out
   have hl8:l.length=8:=by have:=qdp s.data.toList 2000000 8 ⟨0,0⟩;rw [HX.out] at this;exact this
   have HL8:=hI hl8
   rcases hT:qcb s.data.toList 300 r with ⟨r9,pay⟩
   have hp9:r9.pos≤s.size:=by rw [←HSL.out];have:=textR_pos (s:=s.data.toList) (most:=300) (r:=r) (by rw [HSL.out];exact hpos);rw [hT] at this;exact this
   have HTX:Hid (Calls Tryz.prog 108 #[.agg #[.string s,.int .i64 (r.pos:Int),.string pc,.int .i64 (r.e:Int)],.int .i64 300] wr fun e w'=>InT s (r9,pay) wr e w'):=by
    have:=qkm s pc r 300 wr hpos hs
    rw [hT] at this
    exact this
   have HT:=hI hT
   obtain ⟨p0,-,p1,-,p2,-,p3,-⟩:=qci HDT.out.rd
   have hlt8:decide ((8:Int) < 8)=false:=by decide
   clear hT hl8 HX hlt hk
   go_wp2_with fail
   refine HTX.out.mono ?_
   rintro e w1 ⟨hb1,pc1,rfl⟩
   have HD1:=hI (HDT.out.next hb1)
   obtain ⟨c0,f0,c1,f1,c2,f2,c3,f3⟩:=qci HD1.out.rd
   have HD2:=hI (HD1.out.store r9 pc1)
   clear p0 p1 p2 p3 hb1
   unfold inV
   go_wp2
   -- THE REST
   go_loopw [10] (fun iv wr=>DL2 w s r9 l iv wr) (fun i _=>11 - (intOf i).toNat)
   case atStart=>exact ⟨0,8,pc1,rfl,rfl,by omega,by show DT w s r9 pc1 (l ++ []) _;rw [List.append_nil];exact HD2.out⟩
   case round =>
    obtain ⟨k,j,pc,rfl,hj,hk,hdt⟩:=hrel
    have hpos:(qcj s.data.toList 2000000 k r9).1.pos≤s.size:=by rw [←HSL.out];exact qko k (by rw [HSL.out];exact hp9)
    rcases hx:qcj s.data.toList 2000000 k r9 with ⟨ra,la⟩
    rw [hx] at hdt hpos
    have HX:=hI hx
    have HDT2:=hI hdt
    have HJ:=hI hj
    have hj11:j≤11:=by omega
    have hj8:8≤j:=by omega
    clear hx hdt
    dsimp only at hpos
    by_cases hlt:k < 3
    ·rcases hR:numR s.data.toList 2000000 ra with ⟨r',n⟩
     have HR:=hI hR
     have HNc:=hI (HNM.out pc ra r' n wr hpos hR)
     have kz:(j:Int) < 11:=by omega
     have k0:(0:Int)≤(j:Int):=by omega
     obtain ⟨p0,-,p1,-,p2,-,p3,-⟩:=qci HDT2.out.rd
     have hln:(l ++ la).length=j:=by have:=qdp s.data.toList 2000000 k r9;rw [HX.out] at this;rw [List.length_append,HL8.out,this,HJ.out]
     have HLN:=hI hln
     clear hR hj hln
     go_wp2_with fail
     refine HNc.out.mono ?_
     rintro e w1 ⟨hb1,pc',rfl⟩
     have HD3:=hI (HDT2.out.next hb1)
     obtain ⟨c0,f0,c1,f1,c2,f2,c3,f3⟩:=qci HD3.out.rd
     have z1:w.heap.size + 1 < w1.heap.size:=qaa HD3.out.rd
     have z2:w.heap.size + 2 < w1.heap.size:=qaa HD3.out.nm
     have ck:w1.cell? ⟨w.heap.size + 2,j,none⟩=some (.int .i64 (((l ++ la).getD j 0:Nat):Int)):=by rw [qac HD3.out.nm,nC_at (by rw [HLN.out];omega) (by omega)]
     have fk:w1.frozen? ⟨w.heap.size + 2,j,none⟩=false:=Lib.frozen_of_heap HD3.out.nm j
     clear p0 p1 p2 p3 hb1
     unfold inV
     go_wp2
     go_roundw
     case rel=>exact DL2.step hlt HJ.out HL8.out HX.out HR.out HD3.out
     case measure=>simp [intOf];omega
    ·obtain rfl:k=3:=by omega
     obtain rfl:j=11:=by omega
     rcases hL:rowR s.data.toList 400 ra with ⟨rb,lb⟩
     rcases hM:rowR s.data.toList 9 rb with ⟨rc,lc⟩
     have hraw:qbb s.data.toList=⟨endR s.data.toList rc,l,pay,la,lb,lc⟩:=by
      have eT:RT s.data.toList=(r9,pay):=by unfold RT;rw [HX8.out];exact HT.out
      have e3:R3 s.data.toList=(ra,la):=by unfold R3;rw [eT];exact HX.out
      have eL:RL s.data.toList=(rb,lb):=by unfold RL;rw [e3];exact hL
      have eM:RM s.data.toList=(rc,lc):=by unfold RM;rw [eL];exact hM
      unfold qbb
      rw [HX8.out,eT,e3,eL,eM]
     have hpb:rb.pos≤s.size:=by rw [←HSL.out];have:=rowR_pos (s:=s.data.toList) (most:=400) (r:=ra) (by rw [HSL.out];exact hpos);rw [hL] at this;exact this
     have hll:lb.length≤400:=by have:=qjt s.data.toList 400 ra;rw [hL] at this;exact this
     have hlm:lc.length≤9:=by have:=qjt s.data.toList 9 rb;rw [hM] at this;exact this
     have hlp:pay.length≤300:=by have:=qht s.data.toList 300 r;rw [HT.out] at this;exact this
     have hl3:la.length=3:=by have:=qdp s.data.toList 2000000 3 r9;rw [HX.out] at this;exact this
     have HRA:Hid (∀ (pc:ByteArray) W,Calls Tryz.prog 157 #[.agg #[.string s,.int .i64 (ra.pos:Int),.string pc,.int .i64 (ra.e:Int)],.int .i64 400] W fun e w'=>InR s (rb,lb) W e w'):=fun pc W=>by
      have:=qpu s pc ra 400 W hpos hs (by omega)
      rw [hL] at this
      exact this
     have HRB:Hid (∀ (pc:ByteArray) W,Calls Tryz.prog 157 #[.agg #[.string s,.int .i64 (rb.pos:Int),.string pc,.int .i64 (rb.e:Int)],.int .i64 9] W fun e w'=>InR s (rc,lc) W e w'):=fun pc W=>by
      have:=qpu s pc rb 9 W hpb hs (by omega)
      rw [hM] at this
      exact this
     rcases hE:endR s.data.toList rc with ⟨pe,ee⟩
     have HEN:Hid (∀ (pc:ByteArray) W,Calls Tryz.prog 109 #[.agg #[.string s,.int .i64 (rc.pos:Int),.string pc,.int .i64 (rc.e:Int)]] W fun e w'=>InE s ⟨pe,ee⟩ W e w'):=fun pc W=>by
      have:=qty s pc rc W
      rw [hE] at this
      exact this
     rw [hE] at hraw
     have HRAW:=hI hraw
     have HL3:=hI hl3
     obtain ⟨p0,-,p1,-,p2,-,p3,-⟩:=qci HDT2.out.rd
     clear hL hM hraw hE hj hk hlt HTX HD1 HNM
     go_wp2_with fail
     refine (HRA.out _ _).mono ?_
     rintro e w1 ⟨hb1,pa,A,cp,rfl,hra,-,hblk⟩
     have HD3:=hI (HDT2.out.next hb1)
     obtain ⟨c0,f0,c1,f1,c2,f2,c3,f3⟩:=qci HD3.out.rd
     have HD4:=hI (HD3.out.store rb pa)
     have hzr:w.heap.size + 2 < wr.heap.size:=qaa HDT2.out.nm
     have HBK:Hid (∀ a,A=some a→w.heap.size + 2 < a.block):=fun a ha=>by have:=hblk a ha;omega
     have HA4:=hI (hra.grown (same4 w1 (w.heap.size + 1) (.string s) (.int .i64 (rb.pos:Int)) (.string pa) (.int .i64 (rb.e:Int))) (fun a ha=>by have:=HBK.out a ha;omega))
     have z1:w.heap.size + 2 < w1.heap.size:=qaa HD3.out.nm
     clear p0 p1 p2 p3 hb1 hra hblk
     unfold inV
     go_wp2_with fail
     refine (HRB.out _ _).mono ?_
     rintro e w2 ⟨hb2,pb,B,cq,rfl,hrb,-,hblk⟩
     have HD5:=hI (HD4.out.next hb2)
     obtain ⟨c0,f0,c1,f1,c2,f2,c3,f3⟩:=qci HD5.out.rd
     have HD6:=hI (HD5.out.store rc pb)
     have hgs:=same4 w2 (w.heap.size + 1) (.string s) (.int .i64 (rc.pos:Int)) (.string pb) (.int .i64 (rc.e:Int))
     have HBL:Hid (∀ a,B=some a→w.heap.size + 2 < a.block):=fun a ha=>by have:=hblk a ha;simp at this;omega
     have HA6:=hI ((HA4.out.next hb2).grown hgs (fun a ha=>by have:=HBK.out a ha;omega))
     have HB6:=hI (RdI.grown hrb hgs (fun a ha=>by have:=HBL.out a ha;omega))
     have z2:w.heap.size + 2 < w2.heap.size:=qaa HD5.out.nm
     clear hb2 hrb hblk hgs
     unfold inV
     go_wp2_with fail
     refine (HEN.out _ _).mono ?_
     rintro e w3 ⟨hb3,pd,rfl⟩
     have HD7:=hI (HD6.out.next hb3)
     obtain ⟨c0,f0,c1,f1,c2,f2,c3,f3⟩:=qci HD7.out.rd
     have HD8:=hI (HD7.out.store ⟨pe,ee⟩ pd)
     have hgs:=same4 w3 (w.heap.size + 1) (.string s) (.int .i64 (pe:Int)) (.string pd) (.int .i64 (ee:Int))
     have HA8:=hI ((HA6.out.next hb3).grown hgs (fun a ha=>by have:=HBK.out a ha;omega))
     have HB8:=hI ((HB6.out.next hb3).grown hgs (fun a ha=>by have:=HBL.out a ha;omega))
     have z3:w.heap.size + 2 < w3.heap.size:=qaa HD7.out.nm
     clear hb3 hgs
     unfold inV
     dsimp only
     go_upto_region 19 with (fail)
     generalize ((((w3.setCell ⟨w.heap.size + 1,0,none⟩ (.string s)).setCell ⟨w.heap.size + 1,1,none⟩ (.int .i64 (pe:Int))).setCell ⟨w.heap.size + 1,2,none⟩ (.string pd)).setCell ⟨w.heap.size + 1,3,none⟩ (.int .i64 (ee:Int)))=w4 at HD8 HA8 HB8 ⊢
     obtain ⟨c0,f0,c1,f1,c2,f2,c3,f3⟩:=qci HD8.out.rd
     have z4:w.heap.size + 2 < w4.heap.size:=qaa HD8.out.nm
     clear z1 z2 z3 HD7 HD6 HD5 HD4 HD3 HA4 HA6 HB6 HRA HRB HEN
     by_cases hee:ee=0
     case neg =>
      have hen:((ee:Int) != 0)=true:=by simpa using hee
      have HTC:Hid (qda s.data.toList=ee):=by show _=_;rw [takeC_e (by rw [HRAW.out];exact hee),HRAW.out]
      have HEE:=hI hee
      clear hee
      have HALL:=hI (And.intro (qia HD8.out.res (.int .i64 0) (.int .i64 0) (.int .i64 0) (.int .i64 0) (.int .i64 0) (.int .i64 0) (.int .i64 0) (.int .i64 0) (.string ⟨#[]⟩) (.int .i64 0) (.int .i64 0) (.slice none 0 0) (.slice none 0 0) (.int .i64 0)) (And.intro (qib w4 w.heap.size (.int .i64 0) (.int .i64 0) (.int .i64 0) (.int .i64 0) (.int .i64 0) (.int .i64 0) (.int .i64 0) (.int .i64 0) (.string ⟨#[]⟩) (.int .i64 0) (.int .i64 0) (.slice none 0 0) (.slice none 0 0) (.int .i64 0)) (qqy HD8.out.bl (Nat.le_refl _) (.int .i64 0) (.int .i64 0) (.int .i64 0) (.int .i64 0) (.int .i64 0) (.int .i64 0) (.int .i64 0) (.int .i64 0) (.string ⟨#[]⟩) (.int .i64 0) (.int .i64 0) (.slice none 0 0) (.slice none 0 0) (.int .i64 0))))
      obtain ⟨u0,x0,u1,x1,u2,x2,u3,x3,u4,x4,u5,x5,u6,x6,u7,x7,u8,x8,u9,x9,u10,x10,u11,x11,u12,x12,u13,x13⟩:=qbp HD8.out.res
      go_wp2
      go_region
      all_goals go_wp2
      all_goals
       generalize ((((((((((((((w4.setCell ⟨w.heap.size,0,none⟩ (.int .i64 0)).setCell ⟨w.heap.size,1,none⟩ (.int .i64 0)).setCell ⟨w.heap.size,2,none⟩ (.int .i64 0)).setCell ⟨w.heap.size,3,none⟩ (.int .i64 0)).setCell ⟨w.heap.size,4,none⟩ (.int .i64 0)).setCell ⟨w.heap.size,5,none⟩ (.int .i64 0)).setCell ⟨w.heap.size,6,none⟩ (.int .i64 0)).setCell ⟨w.heap.size,7,none⟩ (.int .i64 0)).setCell ⟨w.heap.size,8,none⟩ (.string ⟨#[]⟩)).setCell ⟨w.heap.size,9,none⟩ (.int .i64 0)).setCell ⟨w.heap.size,10,none⟩ (.int .i64 0)).setCell ⟨w.heap.size,11,none⟩ (.slice none 0 0)).setCell ⟨w.heap.size,12,none⟩ (.slice none 0 0)).setCell ⟨w.heap.size,13,none⟩ (.int .i64 0))=wf at HALL ⊢
       obtain ⟨hF,hSM,hFin⟩:=HALL.out
       obtain ⟨y0,-,y1,-,y2,-,y3,-,y4,-,y5,-,y6,-,y7,-,y8,-,y9,-,y10,-,y11,-,y12,-,y13,-⟩:=qbp hF
       refine bodyPost_ret (v:=.tuple #[.agg #[.int .i64 0,.int .i64 0,.int .i64 0,.int .i64 0,.int .i64 0,.int .i64 0,.int .i64 0,.int .i64 0,.string ⟨#[]⟩,.int .i64 0,.int .i64 0,.slice none 0 0,.slice none 0 0,.int .i64 0],.int .i64 (ee:Int)]) (by simp [results,Tryz.results151,go_sem,y0,y1,y2,y3,y4,y5,y6,y7,y8,y9,y10,y11,y12,y13]) rfl ?_
       exact ⟨⟨zM,by rw [HTC.out];rfl,qxd _,(fun _=>rfl),(fun h=>absurd (HTC.out.symm.trans h) HEE.out),qmm _⟩,hFin.drew⟩
     have hen:((ee:Int) != 0)=false:=by simp [hee]
     have HEE:=hI hee
     clear hee
     by_cases hpar:lb.length % 2=0
     case neg =>
      have hp1:(((lb.length:Int) % 2) == 1)=true:=by simp;omega
      have HTC:Hid (qda s.data.toList=5):=by show _=_;exact qqm (by rw [HRAW.out];exact HEE.out) (by rw [HRAW.out];exact hpar)
      clear hpar
      have HALL:=hI (And.intro (qia HD8.out.res (.int .i64 0) (.int .i64 0) (.int .i64 0) (.int .i64 0) (.int .i64 0) (.int .i64 0) (.int .i64 0) (.int .i64 0) (.string ⟨#[]⟩) (.int .i64 0) (.int .i64 0) (.slice none 0 0) (.slice none 0 0) (.int .i64 0)) (And.intro (qib w4 w.heap.size (.int .i64 0) (.int .i64 0) (.int .i64 0) (.int .i64 0) (.int .i64 0) (.int .i64 0) (.int .i64 0) (.int .i64 0) (.string ⟨#[]⟩) (.int .i64 0) (.int .i64 0) (.slice none 0 0) (.slice none 0 0) (.int .i64 0)) (qqy HD8.out.bl (Nat.le_refl _) (.int .i64 0) (.int .i64 0) (.int .i64 0) (.int .i64 0) (.int .i64 0) (.int .i64 0) (.int .i64 0) (.int .i64 0) (.string ⟨#[]⟩) (.int .i64 0) (.int .i64 0) (.slice none 0 0) (.slice none 0 0) (.int .i64 0))))
      obtain ⟨u0,x0,u1,x1,u2,x2,u3,x3,u4,x4,u5,x5,u6,x6,u7,x7,u8,x8,u9,x9,u10,x10,u11,x11,u12,x12,u13,x13⟩:=qbp HD8.out.res
      go_wp2
      generalize ((((((((((((((w4.setCell ⟨w.heap.size,0,none⟩ (.int .i64 0)).setCell ⟨w.heap.size,1,none⟩ (.int .i64 0)).setCell ⟨w.heap.size,2,none⟩ (.int .i64 0)).setCell ⟨w.heap.size,3,none⟩ (.int .i64 0)).setCell ⟨w.heap.size,4,none⟩ (.int .i64 0)).setCell ⟨w.heap.size,5,none⟩ (.int .i64 0)).setCell ⟨w.heap.size,6,none⟩ (.int .i64 0)).setCell ⟨w.heap.size,7,none⟩ (.int .i64 0)).setCell ⟨w.heap.size,8,none⟩ (.string ⟨#[]⟩)).setCell ⟨w.heap.size,9,none⟩ (.int .i64 0)).setCell ⟨w.heap.size,10,none⟩ (.int .i64 0)).setCell ⟨w.heap.size,11,none⟩ (.slice none 0 0)).setCell ⟨w.heap.size,12,none⟩ (.slice none 0 0)).setCell ⟨w.heap.size,13,none⟩ (.int .i64 0))=wf at HALL ⊢
      obtain ⟨hF,hSM,hFin⟩:=HALL.out
      obtain ⟨y0,-,y1,-,y2,-,y3,-,y4,-,y5,-,y6,-,y7,-,y8,-,y9,-,y10,-,y11,-,y12,-,y13,-⟩:=qbp hF
      refine bodyPost_ret (v:=.tuple #[.agg #[.int .i64 0,.int .i64 0,.int .i64 0,.int .i64 0,.int .i64 0,.int .i64 0,.int .i64 0,.int .i64 0,.string ⟨#[]⟩,.int .i64 0,.int .i64 0,.slice none 0 0,.slice none 0 0,.int .i64 0],.int .i64 5]) (by simp [results,Tryz.results151,go_sem,y0,y1,y2,y3,y4,y5,y6,y7,y8,y9,y10,y11,y12,y13]) rfl ?_
      exact ⟨⟨zM,by rw [HTC.out];rfl,qxd _,(fun _=>rfl),(fun h=>absurd (HTC.out.symm.trans h) (by decide)),qmm _⟩,hFin⟩
     have hp1:(((lb.length:Int) % 2) == 1)=false:=by simp;omega
     have HPAR:=hI hpar
     clear hpar
     obtain ⟨n1,n2,n3,n4,n5,n6,n7,n8,rfl⟩:∃ n1 n2 n3 n4 n5 n6 n7 n8,l=[n1,n2,n3,n4,n5,n6,n7,n8]:=⟨_,_,_,_,_,_,_,_,list8 HL8.out⟩
     obtain ⟨n9,n10,n11,rfl⟩:∃ n9 n10 n11,la=[n9,n10,n11]:=⟨_,_,_,list3 HL3.out⟩
     have e0:w4.cell? ⟨w.heap.size + 2,0,none⟩=some (.int .i64 (n1:Int)):=by rw [qac HD8.out.nm];rfl
     have e1:w4.cell? ⟨w.heap.size + 2,1,none⟩=some (.int .i64 (n2:Int)):=by rw [qac HD8.out.nm];rfl
     have e2:w4.cell? ⟨w.heap.size + 2,2,none⟩=some (.int .i64 (n3:Int)):=by rw [qac HD8.out.nm];rfl
     have e3:w4.cell? ⟨w.heap.size + 2,3,none⟩=some (.int .i64 (n4:Int)):=by rw [qac HD8.out.nm];rfl
     have e4:w4.cell? ⟨w.heap.size + 2,4,none⟩=some (.int .i64 (n5:Int)):=by rw [qac HD8.out.nm];rfl
     have e5:w4.cell? ⟨w.heap.size + 2,5,none⟩=some (.int .i64 (n6:Int)):=by rw [qac HD8.out.nm];rfl
     have e6:w4.cell? ⟨w.heap.size + 2,6,none⟩=some (.int .i64 (n7:Int)):=by rw [qac HD8.out.nm];rfl
     have e7:w4.cell? ⟨w.heap.size + 2,7,none⟩=some (.int .i64 (n8:Int)):=by rw [qac HD8.out.nm];rfl
     have e8:w4.cell? ⟨w.heap.size + 2,8,none⟩=some (.int .i64 (n9:Int)):=by rw [qac HD8.out.nm];rfl
     have e9:w4.cell? ⟨w.heap.size + 2,9,none⟩=some (.int .i64 (n10:Int)):=by rw [qac HD8.out.nm];rfl
     have e10:w4.cell? ⟨w.heap.size + 2,10,none⟩=some (.int .i64 (n11:Int)):=by rw [qac HD8.out.nm];rfl
     obtain ⟨i0,hi0,hzz0,hzz1,hzz2⟩:=info_parts qvl
     have HN5:=hI (qcp w4 (.cells (mCs n1 n2 n3 n4 n5 n6 n7 n8 ⟨pay.toArray⟩ n9 n10 (.slice none 0 0) (.slice B lc.length cq) n11) 247))
     have HD9:=hI (HD8.out.next (bel1 w4 (.cells (mCs n1 n2 n3 n4 n5 n6 n7 n8 ⟨pay.toArray⟩ n9 n10 (.slice none 0 0) (.slice B lc.length cq) n11) 247)))
     have HA9:=hI (HA8.out.below (bel1 w4 (.cells (mCs n1 n2 n3 n4 n5 n6 n7 n8 ⟨pay.toArray⟩ n9 n10 (.slice none 0 0) (.slice B lc.length cq) n11) 247)))
     have HB9:=hI (HB8.out.below (bel1 w4 (.cells (mCs n1 n2 n3 n4 n5 n6 n7 n8 ⟨pay.toArray⟩ n9 n10 (.slice none 0 0) (.slice B lc.length cq) n11) 247)))
     have HZ9:Hid (w4.heap.size < (w4.alloc (.cells (mCs n1 n2 n3 n4 n5 n6 n7 n8 ⟨pay.toArray⟩ n9 n10 (.slice none 0 0) (.slice B lc.length cq) n11) 247)).heap.size):=by show _ < _;simp
     unfold mCs at HN5 HD9 HA9 HB9 HZ9
     go_wp2
     generalize w4.alloc (.cells #[.int .i64 (n1:Int),.int .i64 (n2:Int),.int .i64 (n3:Int),.int .i64 (n4:Int),.int .i64 (n5:Int),.int .i64 (n6:Int),.int .i64 (n7:Int),.int .i64 (n8:Int),.string ⟨pay.toArray⟩,.int .i64 (n9:Int),.int .i64 (n10:Int),.slice none 0 0,.slice B lc.length cq,.int .i64 (n11:Int)] 247)=w5 at HN5 HD9 HA9 HB9 HZ9 ⊢
     have HW5:Hid (w4.heap.size≤w5.heap.size):=by show _≤_;have:=HZ9.out;omega
     have HN5':Hid (w5.heap[w4.heap.size]?=some (.cells (mCs n1 n2 n3 n4 n5 n6 n7 n8 ⟨pay.toArray⟩ n9 n10 (.slice none 0 0) (.slice B lc.length cq) n11) 247 (0,0))):=HN5.out
     have z5:w4.heap.size < w5.heap.size:=HZ9.out
     clear e0 e1 e2 e3 e4 e5 e6 e7 e8 e9 e10 c0 f0 c1 f1 c2 f2 c3 f3 HN5
     go_loopw [16] (fun iv wr=>ReadM w4.heap.size (fun v=>mCs n1 n2 n3 n4 n5 n6 n7 n8 ⟨pay.toArray⟩ n9 n10 v (.slice B lc.length cq) n11) lb w5 iv wr) (fun i _=>lb.length - (intOf i).toNat)
     case atStart=>exact ⟨0,rfl,0,0,.slice none 0 0,rfl,rfl,Nat.zero_le _,HN5'.out,qec w5 _ _ encA 2,World.grownBy.refl _ _⟩
     case round =>
      obtain ⟨i,rfl,k,i',v,hiv,hik,hil,hmb,hown,hgr⟩:=hrel
      obtain rfl:i'=i:=by injection hiv with _ hiv;omega
      have HMB:=hI hmb
      have HGR:=hI hgr
      have HIK:=hI hik
      clear hmb hgr hik hiv
      by_cases hlt:i' + 1 < lb.length
      ·have HRW:=hI (HA9.out.grownB HGR.out (Nat.le_refl _) HW5.out)
       obtain ⟨b2,off,hA,hb2,e0⟩:=HRW.out.at_ (i:=i') (by rw [qds];omega)
       obtain ⟨b2',off',hA',hb2',e1⟩:=HRW.out.at_ (i:=i' + 1) (by rw [qds];omega)
       subst hA
       injection hA' with hA'
       injection hA' with h1 h2
       subst h1 h2
       rw [qjv (by omega)] at e0
       rw [qjv (by omega)] at e1
       have HD:Hid (unfl (lb.take (i' + 2))=unfl (lb.take i') ++ [(((lb.getD i' 0:Nat):Int),((lb.getD (i' + 1) 0:Nat):Int))]):=by
        have:=qkz lb k (by have:=HIK.out;omega)
        rw [←HIK.out,show 2 * (k + 1)=i' + 2 by have:=HIK.out;omega] at this
        exact this
       generalize lb.getD i' 0=x0 at e0 HD
       generalize lb.getD (i' + 1) 0=x1 at e1 HD
       have hul:(unfl (lb.take i')).length≤200:=by rw [qhu,List.length_take];omega
       generalize unfl (lb.take i')=d at hown HD hul
       have c11:wr.cell? ⟨w4.heap.size,11,none⟩=some v:=by rw [qac HMB.out];rfl
       have HO:=hI hown
       have zr:w4.heap.size < wr.heap.size:=qaa HMB.out
       have kz:((i':Int) + 1) < (lb.length:Int):=by omega
       have k0:(0:Int)≤(i':Int):=by omega
       have k1:(0:Int)≤(i':Int) + 1:=by omega
       have kz0:(i':Int) < (lb.length:Int):=by omega
       have hw0:IntKind.i64.wrap ((i':Int) + 1)=(i':Int) + 1:=IntWalk.i64_in _ (by omega)
       have t1:((i':Int) + 1).toNat=i' + 1:=by omega
       have H63:d.toArray.size + 1≤maxLen:=by unfold maxLen;rw [List.size_toArray];omega
       have HBY:(d.toArray.size + 1) * 16≤140737488355328:=by rw [List.size_toArray];omega
       have HH63:=hI H63
       have HHBY:=hI HBY
       have HBS:Hid (w5.heap.size≤((wr.alloc (.cells #[.int .i64 (x0:Int),.int .i64 (x1:Int)] 265)).drew).heap.size):=by show _≤_;have:=HGR.out.size;simp;omega
       clear H63 HBY hul hown HRW
       go_wp2_with fail
       go_region_law ((refine qhw (by rfl) (.tmp 107) (.tmp 118) 245 (by rfl) w5.heap.size 265 i0 (.agg #[.int .i64 0,.int .i64 0]) 2 16 Tryz.underlying245 hi0 hzz0 hzz1 hzz2 (by rfl) (by omega) v d.toArray.size (flatK encA 2 d.toArray).toList (by rfl) (HO.out.alloc (.cells #[.int .i64 (x0:Int),.int .i64 (x1:Int)] 265)).drew ⟨wr.heap.size,0,none⟩ 1 1 [.int .i64 (x0:Int),.int .i64 (x1:Int)] (by rfl) (by rfl) (qux wr _ _ _) (two_one _ _) HH63.out HHBY.out HBS.out ?_;intro v' w6 hown' hgrow;obtain ⟨A5,c5',rfl⟩:=quz hown';have HM5:Hid (w6.heap[w4.heap.size]?=some (.cells (mCs n1 n2 n3 n4 n5 n6 n7 n8 ⟨pay.toArray⟩ n9 n10 v (.slice B lc.length cq) n11) 247 (0,0))):=(hgrow.block _ (by simp;omega) (by intro e;have:=(HO.out.lt _ e.symm).1;omega)).trans ((Below.heap_alloc wr _ _ zr).trans HMB.out);have HO5:=hI hown';have HW6:=hI hgrow;have c5:w6.cell? ⟨w4.heap.size,11,none⟩=some v:=(by rw [qac HM5.out];rfl);have f5:w6.frozen? ⟨w4.heap.size,11,none⟩=false:=Lib.frozen_of_heap HM5.out 11;clear hown' hgrow))
       all_goals clear hw0 t1
       all_goals go_wp2
       all_goals
        go_roundw
        case rel=>exact ReadM.of (ReadL.step HIK.out hlt z5 HGR.out HO.out HW6.out HM5.out (fun _=>rfl) HO5.out HD.out)
        case measure=>simp [intOf];omega
      ·have hi2:i'=2 * (lb.length / 2):=by have:=HIK.out;omega
       rw [hi2,qnx] at hown
       obtain ⟨aA,aC,rfl,hra,-,hbA⟩:=qjf hown
       have HRD:Hid (RdM wr (pmOf (qbb s.data.toList) aA aC B cq)):=by
        refine ⟨?_,?_,?_,?_,?_⟩
        ·rw [HRAW.out];exact hra
        ·rw [HRAW.out];exact HB9.out.grownB HGR.out (Nat.le_refl _) HW5.out
        ·rw [HRAW.out];show (unfl lb).toArray.size≤_;rw [List.size_toArray,qhu];omega
        ·rw [HRAW.out];show (ints lc).size≤_;rw [qds];omega
        ·rw [HRAW.out];show (ByteArray.mk pay.toArray).size≤_;simp [ByteArray.size];omega
       have hmv:msgV (pmOf (qbb s.data.toList) aA aC B cq)=.agg #[.int .i64 (n1:Int),.int .i64 (n2:Int),.int .i64 (n3:Int),.int .i64 (n4:Int),.int .i64 (n5:Int),.int .i64 (n6:Int),.int .i64 (n7:Int),.int .i64 (n8:Int),.string ⟨pay.toArray⟩,.int .i64 (n9:Int),.int .i64 (n10:Int),.slice aA (unfl lb).length aC,.slice B lc.length cq,.int .i64 (n11:Int)]:=by rw [HRAW.out];simp [msgV,pmOf,qds]
       have HCM:=hI (HCK.out _ wr HRD.out)
       rw [hmv] at HCM
       have HTC:=hI (qlb (l:=s.data.toList) (by rw [HRAW.out];exact HEE.out) (by rw [HRAW.out];exact HPAR.out) aA aC B cq)
       have HMV:=hI hmv
       have HBA:=hI hbA
       obtain ⟨p0,-,p1,-,p2,-,p3,-,p4,-,p5,-,p6,-,p7,-,p8,-,p9,-,p10,-,p11,-,p12,-,p13,-⟩:=qbp HMB.out
       have HDW:Hid (wr.heap[w.heap.size]?=some (.cells (mCs 0 0 0 0 0 0 0 0 ⟨#[]⟩ 0 0 (.slice none 0 0) (.slice none 0 0) 0) 247 (0,0))∧Below w.heap.size w wr):=⟨qap HD9.out.res HGR.out (by omega),qaq HD9.out.bl HGR.out (by omega)⟩
       have hge:decide ((i':Int) + 1 < (lb.length:Int))=false:=by simp;omega
       generalize hcm:chkM (pmOf (qbb s.data.toList) aA aC B cq)=c at HCM HTC
       have HC3:Hid (c=0∨c=2∨c=30):=by show _∨_;rw [←hcm];exact chk_3 _
       clear hmv hown hra hbA hi2 hlt hcm
       go_wp2_with fail
       refine HCM.out.mono ?_
       rintro e w6 ⟨rfl,hb6⟩
       have HR6:=hI ((hb6.block _ (qaa HDW.out.1)).trans HDW.out.1)
       have HL6:=hI (qad HDW.out.2 hb6)
       have HM6:Hid (w6.heap[w4.heap.size]?=some (.cells #[.int .i64 (n1:Int),.int .i64 (n2:Int),.int .i64 (n3:Int),.int .i64 (n4:Int),.int .i64 (n5:Int),.int .i64 (n6:Int),.int .i64 (n7:Int),.int .i64 (n8:Int),.string ⟨pay.toArray⟩,.int .i64 (n9:Int),.int .i64 (n10:Int),.slice aA (unfl lb).length aC,.slice B lc.length cq,.int .i64 (n11:Int)] 247 (0,0))):=(hb6.block _ (qaa HMB.out)).trans HMB.out
       have HRD6:=hI (HRD.out.next hb6)
       clear hb6 p0 p1 p2 p3 p4 p5 p6 p7 p8 p9 p10 p11 p12 p13
       rcases HC3.out with rfl | hc
       ·have HT0:Hid (qda s.data.toList=0):=by show _=_;have:=HTC.out;omega
        obtain ⟨p0,-,p1,-,p2,-,p3,-,p4,-,p5,-,p6,-,p7,-,p8,-,p9,-,p10,-,p11,-,p12,-,p13,-⟩:=qbp HM6.out
        have HALL:=hI (And.intro (qia HR6.out (.int .i64 (n1:Int)) (.int .i64 (n2:Int)) (.int .i64 (n3:Int)) (.int .i64 (n4:Int)) (.int .i64 (n5:Int)) (.int .i64 (n6:Int)) (.int .i64 (n7:Int)) (.int .i64 (n8:Int)) (.string ⟨pay.toArray⟩) (.int .i64 (n9:Int)) (.int .i64 (n10:Int)) (.slice aA (unfl lb).length aC) (.slice B lc.length cq) (.int .i64 (n11:Int))) (And.intro (qib w6 w.heap.size (.int .i64 (n1:Int)) (.int .i64 (n2:Int)) (.int .i64 (n3:Int)) (.int .i64 (n4:Int)) (.int .i64 (n5:Int)) (.int .i64 (n6:Int)) (.int .i64 (n7:Int)) (.int .i64 (n8:Int)) (.string ⟨pay.toArray⟩) (.int .i64 (n9:Int)) (.int .i64 (n10:Int)) (.slice aA (unfl lb).length aC) (.slice B lc.length cq) (.int .i64 (n11:Int))) (qqy HL6.out (Nat.le_refl _) (.int .i64 (n1:Int)) (.int .i64 (n2:Int)) (.int .i64 (n3:Int)) (.int .i64 (n4:Int)) (.int .i64 (n5:Int)) (.int .i64 (n6:Int)) (.int .i64 (n7:Int)) (.int .i64 (n8:Int)) (.string ⟨pay.toArray⟩) (.int .i64 (n9:Int)) (.int .i64 (n10:Int)) (.slice aA (unfl lb).length aC) (.slice B lc.length cq) (.int .i64 (n11:Int)))))
        obtain ⟨u0,x0,u1,x1,u2,x2,u3,x3,u4,x4,u5,x5,u6,x6,u7,x7,u8,x8,u9,x9,u10,x10,u11,x11,u12,x12,u13,x13⟩:=qbp HR6.out
        go_wp2
        generalize ((((((((((((((w6.setCell ⟨w.heap.size,0,none⟩ (.int .i64 (n1:Int))).setCell ⟨w.heap.size,1,none⟩ (.int .i64 (n2:Int))).setCell ⟨w.heap.size,2,none⟩ (.int .i64 (n3:Int))).setCell ⟨w.heap.size,3,none⟩ (.int .i64 (n4:Int))).setCell ⟨w.heap.size,4,none⟩ (.int .i64 (n5:Int))).setCell ⟨w.heap.size,5,none⟩ (.int .i64 (n6:Int))).setCell ⟨w.heap.size,6,none⟩ (.int .i64 (n7:Int))).setCell ⟨w.heap.size,7,none⟩ (.int .i64 (n8:Int))).setCell ⟨w.heap.size,8,none⟩ (.string ⟨pay.toArray⟩)).setCell ⟨w.heap.size,9,none⟩ (.int .i64 (n9:Int))).setCell ⟨w.heap.size,10,none⟩ (.int .i64 (n10:Int))).setCell ⟨w.heap.size,11,none⟩ (.slice aA (unfl lb).length aC)).setCell ⟨w.heap.size,12,none⟩ (.slice B lc.length cq)).setCell ⟨w.heap.size,13,none⟩ (.int .i64 (n11:Int)))=wf at HALL ⊢
        obtain ⟨hF,hSM,hFin⟩:=HALL.out
        obtain ⟨y0,-,y1,-,y2,-,y3,-,y4,-,y5,-,y6,-,y7,-,y8,-,y9,-,y10,-,y11,-,y12,-,y13,-⟩:=qbp hF
        refine bodyPost_ret (v:=.tuple #[.agg #[.int .i64 (n1:Int),.int .i64 (n2:Int),.int .i64 (n3:Int),.int .i64 (n4:Int),.int .i64 (n5:Int),.int .i64 (n6:Int),.int .i64 (n7:Int),.int .i64 (n8:Int),.string ⟨pay.toArray⟩,.int .i64 (n9:Int),.int .i64 (n10:Int),.slice aA (unfl lb).length aC,.slice B lc.length cq,.int .i64 (n11:Int)],.int .i64 0]) (by simp [results,Tryz.results151,go_sem,y0,y1,y2,y3,y4,y5,y6,y7,y8,y9,y10,y11,y12,y13]) rfl ?_
        exact ⟨⟨pmOf (qbb s.data.toList) aA aC B cq,by rw [HMV.out,HT0.out];rfl,⟨HRD6.out.ra.grown hSM (fun a ha=>by have:=HBA.out a ha;omega),HRD6.out.rm.grown hSM (fun a ha=>by have:=HBL.out a ha;omega),HRD6.out.sa,HRD6.out.sm,HRD6.out.sp⟩,(fun h=>absurd HT0.out h),(fun _=>⟨aA,aC,B,cq,rfl⟩),(fun a ha=>by have:=HBA.out a ha;omega),(fun a ha=>by have:=HBL.out a ha;omega)⟩,hFin⟩
       ·have hcn:(c != 0)=true:=by rcases hc with rfl | rfl <;> rfl
        have HTN:Hid (qda s.data.toList≠0):=by show _≠_;intro h;have:=HTC.out;rw [h] at this;rcases hc with rfl | rfl <;> omega
        clear hc
        have HALL:=hI (And.intro (qia HR6.out (.int .i64 0) (.int .i64 0) (.int .i64 0) (.int .i64 0) (.int .i64 0) (.int .i64 0) (.int .i64 0) (.int .i64 0) (.string ⟨#[]⟩) (.int .i64 0) (.int .i64 0) (.slice none 0 0) (.slice none 0 0) (.int .i64 0)) (And.intro (qib w6 w.heap.size (.int .i64 0) (.int .i64 0) (.int .i64 0) (.int .i64 0) (.int .i64 0) (.int .i64 0) (.int .i64 0) (.int .i64 0) (.string ⟨#[]⟩) (.int .i64 0) (.int .i64 0) (.slice none 0 0) (.slice none 0 0) (.int .i64 0)) (qqy HL6.out (Nat.le_refl _) (.int .i64 0) (.int .i64 0) (.int .i64 0) (.int .i64 0) (.int .i64 0) (.int .i64 0) (.int .i64 0) (.int .i64 0) (.string ⟨#[]⟩) (.int .i64 0) (.int .i64 0) (.slice none 0 0) (.slice none 0 0) (.int .i64 0))))
        obtain ⟨u0,x0,u1,x1,u2,x2,u3,x3,u4,x4,u5,x5,u6,x6,u7,x7,u8,x8,u9,x9,u10,x10,u11,x11,u12,x12,u13,x13⟩:=qbp HR6.out
        go_wp2
        generalize ((((((((((((((w6.setCell ⟨w.heap.size,0,none⟩ (.int .i64 0)).setCell ⟨w.heap.size,1,none⟩ (.int .i64 0)).setCell ⟨w.heap.size,2,none⟩ (.int .i64 0)).setCell ⟨w.heap.size,3,none⟩ (.int .i64 0)).setCell ⟨w.heap.size,4,none⟩ (.int .i64 0)).setCell ⟨w.heap.size,5,none⟩ (.int .i64 0)).setCell ⟨w.heap.size,6,none⟩ (.int .i64 0)).setCell ⟨w.heap.size,7,none⟩ (.int .i64 0)).setCell ⟨w.heap.size,8,none⟩ (.string ⟨#[]⟩)).setCell ⟨w.heap.size,9,none⟩ (.int .i64 0)).setCell ⟨w.heap.size,10,none⟩ (.int .i64 0)).setCell ⟨w.heap.size,11,none⟩ (.slice none 0 0)).setCell ⟨w.heap.size,12,none⟩ (.slice none 0 0)).setCell ⟨w.heap.size,13,none⟩ (.int .i64 0))=wf at HALL ⊢
        obtain ⟨hF,hSM,hFin⟩:=HALL.out
        obtain ⟨y0,-,y1,-,y2,-,y3,-,y4,-,y5,-,y6,-,y7,-,y8,-,y9,-,y10,-,y11,-,y12,-,y13,-⟩:=qbp hF
        refine bodyPost_ret (v:=.tuple #[.agg #[.int .i64 0,.int .i64 0,.int .i64 0,.int .i64 0,.int .i64 0,.int .i64 0,.int .i64 0,.int .i64 0,.string ⟨#[]⟩,.int .i64 0,.int .i64 0,.slice none 0 0,.slice none 0 0,.int .i64 0],.int .i64 c]) (by simp [results,Tryz.results151,go_sem,y0,y1,y2,y3,y4,y5,y6,y7,y8,y9,y10,y11,y12,y13]) rfl ?_
        exact ⟨⟨zM,by rw [HTC.out];rfl,qxd _,(fun _=>rfl),(fun h=>absurd h HTN.out),qmm _⟩,hFin⟩
theorem dTake_of (hchk:∀ (m:PM) (W:World),RdM W m→Calls Tryz.prog 158 #[msgV m] W fun e w'=>e=.returned (.int .i64 (chkM m))∧Below W.heap.size W w') (s:ByteArray) (w:World) (hs:s.size≤1000000) :
 Calls Tryz.prog 151 #[.string s] w fun e w'=>DTakeP s e w'∧Below w.heap.size w w':=(dTakeB_of hchk s w hs).mono fun _ _ ⟨h,hb⟩=>⟨h.take,hb⟩
end Go.Proofs.YtjkecckndfcbjaaGreatDoor
namespace Go.Proofs.YtjkecckndfcbjaaGreatDoor
open Go.RowKit Go.Sort Nb
theorem dChk_any (m:PM) (w:World) (hm:RdM w m) :
 Calls Tryz.prog 158 #[msgV m] w fun e w'=>e=.returned (.int .i64 (chkM m))∧Below w.heap.size w w':=by
 have:=rChk_any m w hm
 rw [chkR_eq] at this
 exact this
theorem dTake_any (s:ByteArray) (w:World) (hs:s.size≤1000000) :
 Calls Tryz.prog 151 #[.string s] w fun e w'=>DTakeP s e w'∧Below w.heap.size w w':=dTake_of dChk_any s w hs
end Go.Proofs.YtjkecckndfcbjaaGreatDoor
namespace Go.Proofs.YtjkecckndfcbjaaGreatDoor
open Go.RowKit Go.Sort Nb
set_option maxRecDepth 100000 in
set_option maxHeartbeats 1000000 in
theorem rEvt_any (k:Int) (d:ByteArray) (w:World) (hd:d.size≤1000000) :
 Calls Tryz.prog 138 #[.agg #[.int .i64 k,.string d]] w fun e w'=>e=.returned (.int .i64 (evC k d:Int))∧Below w.heap.size w w':=by
 have HE:Hid (evC k d=if k=1 then (if d.size≤300 then 0 else 2) else if k=2 then (if qda d.data.toList=0 then 0 else 2) else if k=3 then (if d.size=0 then 0 else 2) else 30):=rfl
 generalize evC k d=c at HE ⊢
 by_cases h1:k=1
 ·subst h1
  rw [if_pos rfl] at HE
  by_cases h3:d.size≤300
  ·rw [if_pos h3] at HE
   have h3':decide ((300:Int) < (d.size:Int))=false:=by simp;omega
   clear h3
   go_enter Tryz.func138,Tryz.ntmps138
   go_wp2
   go_ret
   rw [HE.out]
   exact ⟨rfl,bel1 w _⟩
  ·rw [if_neg h3] at HE
   have h3':decide ((300:Int) < (d.size:Int))=true:=by simp;omega
   clear h3
   go_enter Tryz.func138,Tryz.ntmps138
   go_wp2
   go_ret
   rw [HE.out]
   exact ⟨rfl,bel1 w _⟩
 ·rw [if_neg h1] at HE
  have h1':(k == 1)=false:=by simpa using h1
  clear h1
  by_cases h2:k=2
  ·subst h2
   rw [if_pos rfl] at HE
   have HTK:=hI (fun (W:World)=>dTake_any d W hd)
   clear h1'
   go_enter Tryz.func138,Tryz.ntmps138
   go_wp2_with fail
   refine (HTK.out _).mono ?_
   rintro e w1 ⟨⟨m,rfl,-,-,-⟩,hb1⟩
   have HB1:=hI (qad (bel1 w _) hb1)
   clear hb1
   obtain ⟨t,ht⟩:∃ t,qda d.data.toList=t:=⟨_,rfl⟩
   rw [ht] at HE ⊢
   clear ht
   unfold msgV
   by_cases h0:t=0
   ·rw [if_pos h0] at HE
    have h0':((t:Int) != 0)=false:=by simp [h0]
    clear h0
    go_wp2
    go_ret
    rw [HE.out]
    exact ⟨rfl,qab HB1.out _⟩
   ·rw [if_neg h0] at HE
    have h0':((t:Int) != 0)=true:=by simpa using h0
    clear h0
    go_wp2
    go_ret
    rw [HE.out]
    exact ⟨rfl,qab HB1.out _⟩
  ·rw [if_neg h2] at HE
   have h2':(k == 2)=false:=by simpa using h2
   clear h2
   by_cases h3:k=3
   ·subst h3
    rw [if_pos rfl] at HE
    clear h1' h2'
    by_cases h4:d.size=0
    ·rw [if_pos h4] at HE
     have h4':d.toList.isEmpty=true:=by rw [sz0];simpa using h4
     clear h4
     go_enter Tryz.func138,Tryz.ntmps138
     go_wp2
     go_ret
     rw [HE.out]
     exact ⟨rfl,bel1 w _⟩
    ·rw [if_neg h4] at HE
     have h4':d.toList.isEmpty=false:=by rw [sz0];simpa using h4
     clear h4
     go_enter Tryz.func138,Tryz.ntmps138
     go_wp2
     go_ret
     rw [HE.out]
     exact ⟨rfl,bel1 w _⟩
   ·rw [if_neg h3] at HE
    have h3':(k == 3)=false:=by simpa using h3
    clear h3
    go_enter Tryz.func138,Tryz.ntmps138
    go_wp2
    go_ret
    rw [HE.out]
    exact ⟨rfl,bel1 w _⟩
theorem recC_out {r:PR} (h:¬ (1≤r.ep∧r.ep≤1000000∧0≤r.sq∧r.sq≤1000000)):recC r=2:=by
 rcases qla r with h0 | h0
 ·obtain ⟨h1,h2,h3,h4,-⟩:=qfv h0
  exact absurd ⟨h1,h2,h3,h4⟩ h
 ·exact h0
theorem recC_T {r:PR} (h:1≤r.ep∧r.ep≤1000000∧0≤r.sq∧r.sq≤1000000) (hs:r.sn=true):recC r=if r.sq=0∧r.st.size≤18000∧r.k=0∧r.dt.size=0 then 0 else 2:=by
 obtain ⟨h1,h2,h3,h4⟩:=h
 unfold recC qsn qso
 rw [hs]
 by_cases a:r.sq=0 <;> by_cases b:r.st.size≤18000 <;> by_cases c:r.k=0 <;> by_cases d:r.dt.size=0 <;> simp [h1,h2,h3,h4,a,b,c,d]
theorem recC_F {r:PR} (h:1≤r.ep∧r.ep≤1000000∧0≤r.sq∧r.sq≤1000000) (hs:r.sn=false):recC r=if 0 < r.sq∧r.st.size=0∧evC r.k r.dt=0 then 0 else 2:=by
 obtain ⟨h1,h2,h3,h4⟩:=h
 unfold recC qsn qso
 rw [hs]
 by_cases a:r.sq=0
 ·simp [h1,h2,a]
 ·have a':0 < r.sq:=by omega
  by_cases b:r.st.size=0 <;> by_cases c:evC r.k r.dt=0 <;> simp [h1,h2,h3,h4,a,a',b,c]
set_option maxRecDepth 100000 in
set_option maxHeartbeats 4000000 in
theorem qhc (r:PR) (w:World) (hd:r.dt.size≤1000000) :
 Calls Tryz.prog 110 #[recV r] w fun e w'=>e=.returned (.int .i64 (recC r:Int))∧Below w.heap.size w w':=by
 have HEV:=hI (fun (W:World)=>rEvt_any r.k r.dt W hd)
 have HOUT:=hI (@recC_out r)
 have HT:=hI (@recC_T r)
 have HF:=hI (@recC_F r)
 unfold recV
 generalize recC r=rc at HOUT HT HF ⊢
 obtain ⟨ep,sq,sn,k,dt,st⟩:=r
 dsimp only at HEV HOUT HT HF ⊢
 clear hd
 by_cases h1:ep < 1
 ·have HV:Hid (rc=2):=HOUT.out (by omega)
  clear HOUT HT HF HEV
  go_enter Tryz.func110,Tryz.ntmps110
  go_wp2
  go_ret
  rw [HV.out]
  exact ⟨rfl,bel1 w _⟩
 by_cases h2:1000000 < ep
 ·have HV:Hid (rc=2):=HOUT.out (by omega)
  clear HOUT HT HF HEV
  go_enter Tryz.func110,Tryz.ntmps110
  go_wp2
  go_ret
  rw [HV.out]
  exact ⟨rfl,bel1 w _⟩
 by_cases h3:sq < 0
 ·have HV:Hid (rc=2):=HOUT.out (by omega)
  clear HOUT HT HF HEV
  go_enter Tryz.func110,Tryz.ntmps110
  go_wp2
  go_ret
  rw [HV.out]
  exact ⟨rfl,bel1 w _⟩
 by_cases h4:1000000 < sq
 ·have HV:Hid (rc=2):=HOUT.out (by omega)
  clear HOUT HT HF HEV
  go_enter Tryz.func110,Tryz.ntmps110
  go_wp2
  go_ret
  rw [HV.out]
  exact ⟨rfl,bel1 w _⟩
 have hb:1≤ep∧ep≤1000000∧0≤sq∧sq≤1000000:=by omega
 clear HOUT
 cases sn
 ·have HF1:=hI (HF.out hb rfl)
  have hse:=@sz0 st
  clear HT HF hb
  by_cases h5:0 < sq
  ·by_cases h6:st.size=0
   ·have h6':decide (st.size=0)=true:=by simpa using h6
    rw [h6'] at hse
    obtain ⟨t,ht⟩:∃ t,evC k dt=t:=⟨_,rfl⟩
    rw [ht] at HEV HF1
    clear ht h6'
    by_cases h7:t=0
    ·have h7':((t:Int) == 0)=true:=by simp [h7]
     rw [if_pos ⟨h5,h6,h7⟩] at HF1
     clear h6 h7
     go_enter Tryz.func110,Tryz.ntmps110
     go_wp2_with (go_at_call 138;refine (HEV.out _).mono ?_;rintro e w1 ⟨rfl,hb1⟩;have HB1:=hI (qad (bel1 w _) hb1);clear hb1)
     go_ret
     rw [HF1.out]
     exact ⟨rfl,HB1.out⟩
    ·have h7':((t:Int) == 0)=false:=by simpa using h7
     rw [if_neg (by intro h;exact h7 h.2.2)] at HF1
     clear h6 h7
     go_enter Tryz.func110,Tryz.ntmps110
     go_wp2_with (go_at_call 138;refine (HEV.out _).mono ?_;rintro e w1 ⟨rfl,hb1⟩;have HB1:=hI (qad (bel1 w _) hb1);clear hb1)
     go_ret
     rw [HF1.out]
     exact ⟨rfl,HB1.out⟩
   ·have h6':decide (st.size=0)=false:=by simpa using h6
    rw [h6'] at hse
    rw [if_neg (by intro h;exact h6 h.2.1)] at HF1
    clear h6 h6' HEV
    go_enter Tryz.func110,Tryz.ntmps110
    go_wp2
    go_ret
    rw [HF1.out]
    exact ⟨rfl,bel1 w _⟩
  ·rw [if_neg (by intro h;exact h5 h.1)] at HF1
   clear hse HEV
   go_enter Tryz.func110,Tryz.ntmps110
   go_wp2
   go_ret
   rw [HF1.out]
   exact ⟨rfl,bel1 w _⟩
 ·have HT1:=hI (HT.out hb rfl)
  have hde:=@sz0 dt
  clear HT HF hb HEV
  by_cases h5:sq=0
  ·have h5':(sq == 0)=true:=by simpa using h5
   by_cases h6:st.size≤18000
   ·have h6':decide ((st.size:Int)≤18000)=true:=by simp;omega
    by_cases h7:k=0
    ·have h7':(k == 0)=true:=by simpa using h7
     by_cases h8:dt.size=0
     ·have h8':decide (dt.size=0)=true:=by simpa using h8
      rw [h8'] at hde
      rw [if_pos ⟨h5,h6,h7,h8⟩] at HT1
      clear h5 h6 h7 h8 h8'
      go_enter Tryz.func110,Tryz.ntmps110
      go_wp2
      go_ret
      rw [HT1.out]
      exact ⟨rfl,bel1 w _⟩
     ·have h8':decide (dt.size=0)=false:=by simpa using h8
      rw [h8'] at hde
      rw [if_neg (by intro h;exact h8 h.2.2.2)] at HT1
      clear h5 h6 h7 h8 h8'
      go_enter Tryz.func110,Tryz.ntmps110
      go_wp2
      go_ret
      rw [HT1.out]
      exact ⟨rfl,bel1 w _⟩
    ·have h7':(k == 0)=false:=by simpa using h7
     rw [if_neg (by intro h;exact h7 h.2.2.1)] at HT1
     clear h5 h6 h7 hde
     go_enter Tryz.func110,Tryz.ntmps110
     go_wp2
     go_ret
     rw [HT1.out]
     exact ⟨rfl,bel1 w _⟩
   ·have h6':decide ((st.size:Int)≤18000)=false:=by simp;omega
    rw [if_neg (by intro h;exact h6 h.2.1)] at HT1
    clear h5 h6 hde
    go_enter Tryz.func110,Tryz.ntmps110
    go_wp2
    go_ret
    rw [HT1.out]
    exact ⟨rfl,bel1 w _⟩
  ·have h5':(sq == 0)=false:=by simpa using h5
   rw [if_neg (by intro h;exact h5 h.1)] at HT1
   clear h5 hde
   go_enter Tryz.func110,Tryz.ntmps110
   go_wp2
   go_ret
   rw [HT1.out]
   exact ⟨rfl,bel1 w _⟩
end Go.Proofs.YtjkecckndfcbjaaGreatDoor
