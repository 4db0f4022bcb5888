/- Texts that the law leans on. -/
import Derived.Sort.LotD3
import Derived.Deep.LoopGhost
import Derived.BigRegion
import Derived.Shelf.Abstract
import Derived.Test.YtnmojicfmcbgmaaGreatDoorQIdentB
namespace Go.Proofs.YtnmojicfmcbgmaaGreatDoor
open Go.RowKit Go.Sort Go.Lib
structure Srt (w:World) (blk off:Nat) (d:Array (Int×Int)) (w':World):Prop where
 holds:HoldsK qbe 2 w' blk off d
 lt:blk < w.heap.size
 size:w.heap.size≤w'.heap.size
 block:∀ g,g < w.heap.size→g≠blk→w'.heap[g]?=w.heap[g]?
 os:w'.os=w.os
 tape:w'.tape=w.tape
 output:w'.output=w.output
section
variable {w w1 w2:World} {blk off:Nat} {d d2:Array (Int×Int)}
theorem Srt.refl (h:HoldsK qbe 2 w blk off d) (hl:blk < w.heap.size):Srt w blk off d w:=⟨h,hl,Nat.le_refl _,fun _ _ _=>rfl,rfl,rfl,rfl⟩
theorem Srt.lt1 (h:Srt w blk off d w1):blk < w1.heap.size:=Nat.lt_of_lt_of_le h.lt h.size
theorem Srt.below (h:Srt w blk off d w1) (hb:RowKit.Below w1.heap.size w1 w2):Srt w blk off d w2 :=
 ⟨fun t ht=>⟨(hb.cell (p:=⟨blk,off + t,none⟩) h.lt1).trans (h.holds t ht).1,(hb.frozen (p:=⟨blk,off + t,none⟩) h.lt1).trans (h.holds t ht).2⟩,h.lt,Nat.le_trans h.size hb.size,
  fun g hg hne=>(hb.block g (Nat.lt_of_lt_of_le hg h.size)).trans (h.block g hg hne),hb.os.trans h.os,hb.tape.trans h.tape,hb.output.trans h.output⟩
theorem Srt.trans (h:Srt w blk off d w1) (k:Srt w1 blk off d2 w2):Srt w blk off d2 w2 :=
 ⟨k.holds,h.lt,Nat.le_trans h.size k.size,fun g hg hne=>(k.block g (Nat.lt_of_lt_of_le hg h.size) hne).trans (h.block g hg hne),k.os.trans h.os,k.tape.trans h.tape,k.output.trans h.output⟩
theorem Srt.cells (h:Srt w blk off d w1) {i:Nat} (hi:i < d.size) (p:ExtW w1):p.to.cell? ⟨blk,off + i * 2,none⟩=some (.int .i64 d[i]!.1)∧p.to.cell? ⟨blk,off + i * 2 + 1,none⟩=some (.int .i64 d[i]!.2) :=
 ⟨((h.below p.h).holds.cell (i:=i) (c:=0) hi (by decide)).1,((h.below p.h).holds.cell (i:=i) (c:=1) hi (by decide)).1⟩
theorem Srt.own (h:Srt w blk off d w1) {i:Nat} (hi:i < d.size):w1.cell? ⟨blk,off + i * 2,none⟩=some (.int .i64 d[i]!.1)∧w1.frozen? ⟨blk,off + i * 2,none⟩=false∧w1.cell? ⟨blk,off + i * 2 + 1,none⟩=some (.int .i64 d[i]!.2)∧w1.frozen? ⟨blk,off + i * 2 + 1,none⟩=false :=
 ⟨(h.holds.cell (i:=i) (c:=0) hi (by decide)).1,(h.holds.cell (i:=i) (c:=0) hi (by decide)).2,(h.holds.cell (i:=i) (c:=1) hi (by decide)).1,(h.holds.cell (i:=i) (c:=1) hi (by decide)).2⟩
end
end Go.Proofs.YtnmojicfmcbgmaaGreatDoor
namespace Go.Proofs.YtnmojicfmcbgmaaGreatDoor
open Go.RowKit Go.Sort Go.Lib
structure Cnt (w:World) (sb:Nat) (w':World):Prop where
 cell:∃ s:Int,w'.heap[sb]?=some (.cells #[.int .i64 s] 3 (0,0))
 lt:sb < w.heap.size
 size:w.heap.size≤w'.heap.size
 block:∀ g,g < w.heap.size→g≠sb→w'.heap[g]?=w.heap[g]?
 os:w'.os=w.os
 tape:w'.tape=w.tape
 output:w'.output=w.output
section
variable {w w1 w2:World} {sb blk off:Nat} {d:Array (Int×Int)}
theorem Cnt.trans (h:Cnt w sb w1) (k:Cnt w1 sb w2):Cnt w sb w2 :=
 ⟨k.cell,h.lt,Nat.le_trans h.size k.size,fun g hg hne=>(k.block g (Nat.lt_of_lt_of_le hg h.size) hne).trans (h.block g hg hne),k.os.trans h.os,k.tape.trans h.tape,k.output.trans h.output⟩
theorem Cnt.holds (h:Cnt w sb w1) (hH:HoldsK qbe 2 w blk off d) (hl:blk < w.heap.size) (hne:blk≠sb):HoldsK qbe 2 w1 blk off d:=fun t ht =>
 ⟨(World.cell?_of_block (a:=⟨blk,off + t,none⟩) (h.block blk hl hne)).trans (hH t ht).1,(World.frozen?_of_block (a:=⟨blk,off + t,none⟩) (h.block blk hl hne)).trans (hH t ht).2⟩
theorem Cnt.below (hb:RowKit.Below w.heap.size w w1) (hl:sb < w.heap.size) (hc:∃ s:Int,w.heap[sb]?=some (.cells #[.int .i64 s] 3 (0,0))):Cnt w sb w1 :=
 ⟨by obtain ⟨s,hs⟩:=hc;exact ⟨s,(hb.block sb hl).trans hs⟩,hl,hb.size,fun g hg _=>hb.block g hg,hb.os,hb.tape,hb.output⟩
theorem Cnt.set {s:Int} (h:Cnt w sb w1) (hc:∃ t:Int,w1.heap[sb]?=some (.cells #[.int .i64 t] 3 (0,0))):Cnt w sb (w1.setCell ⟨sb,0,none⟩ (.int .i64 s)) :=
 ⟨by obtain ⟨t,ht⟩:=hc;exact ⟨s,by simp [World.setCell,Array.getElem?_modify,ht]⟩,h.lt,by simpa [World.setCell] using h.size,fun g hg hne=>(RowKit.Below.heap_setCell _ _ _ _ hne).trans (h.block g hg hne),h.os,h.tape,h.output⟩
end
end Go.Proofs.YtnmojicfmcbgmaaGreatDoor
