/- Texts that the law leans on. -/
import Derived.Shelf.SlSortCmp.InsertionK
import Derived.Lib.SlKept
import Derived.Lib.SliceRun
import Derived.Shelf.SlicesQ.IndexFunc
import Derived.Shelf.SlicesE.DeleteFunc
import Derived.Test.YtnmojicfmcbgmaaGreatDoorQOwnK
namespace Go.Proofs.YtnmojicfmcbgmaaGreatDoor
open Go.RowKit Go.Sort Go.Lib
section
variable {α:Type} [Inhabited α] {enc:α→List Value} {k:Nat} {w w1 w2:World} {blk off:Nat} {d d2:Array α}
structure SrtK (enc:α→List Value) (k:Nat) (w:World) (blk off:Nat) (d:Array α) (w':World):Prop where
 holds:HoldsK enc k w' blk off d
 lt:blk < w.heap.size
 grown:w.grownBy w' (some blk)
theorem qgk {a b c:World} {row:Option Nat} (h:a.grownBy b row) (k:b.grownBy c row):a.grownBy c row :=
 ⟨k.os.trans h.os,k.tape.trans h.tape,k.output.trans h.output,Nat.le_trans h.size k.size,fun i hi hne=>(k.block i (Nat.lt_of_lt_of_le hi h.size) hne).trans (h.block i hi hne)⟩
theorem qmt {a b:World} (h:RowKit.Below a.heap.size a b) (row:Option Nat):a.grownBy b row:=⟨h.os,h.tape,h.output,h.size,fun i hi _=>h.block i hi⟩
theorem qpj (a:World) (g o:Nat) (v:Value):a.grownBy (a.setCell ⟨g,o,none⟩ v) (some g) :=
 ⟨rfl,rfl,rfl,by simp [World.setCell],fun i _ hne=>Below.heap_setCell a ⟨g,o,none⟩ v i (fun e=>hne (by rw [e]))⟩
theorem qhx (g:Nat):∀ (vs:List Value) (o:Nat) (a:World),a.grownBy (a.setCells g o vs) (some g)
 | [],_,a=>World.grownBy.refl a _
 | v :: vs,o,a=>qgk (qpj a g o v) (qhx g vs (o + 1) (a.setCell ⟨g,o,none⟩ v))
theorem SrtK.refl (h:HoldsK enc k w blk off d) (hl:blk < w.heap.size):SrtK enc k w blk off d w:=⟨h,hl,World.grownBy.refl w _⟩
theorem SrtK.lt1 (h:SrtK enc k w blk off d w1):blk < w1.heap.size:=Nat.lt_of_lt_of_le h.lt h.grown.size
theorem qrq (h:HoldsK enc k w1 blk off d) (hl:blk < w1.heap.size) (hb:RowKit.Below w1.heap.size w1 w2):HoldsK enc k w2 blk off d :=
 fun t ht=>⟨(hb.cell (p:=⟨blk,off + t,none⟩) hl).trans (h t ht).1,(hb.frozen (p:=⟨blk,off + t,none⟩) hl).trans (h t ht).2⟩
theorem SrtK.below (h:SrtK enc k w blk off d w1) (hb:RowKit.Below w1.heap.size w1 w2):SrtK enc k w blk off d w2 :=
 ⟨qrq h.holds h.lt1 hb,h.lt,qgk h.grown (qmt hb _)⟩
theorem flatK_put (hk:∀ x,(enc x).length=k) (d:Array α) (i:Nat) (hi:i < d.size) (x:α):flatK enc k (d.setIfInBounds i x)=setMany (flatK enc k d) (i * k) (enc x):=by
 have hik:i * k + k≤d.size * k:=by
  have:=Nat.mul_le_mul_right k (show i + 1≤d.size from hi);rwa [Nat.add_mul,Nat.one_mul] at this
 rcases Nat.eq_zero_or_pos k with k0 | k0
 ·subst k0
  have:enc x=[]:=List.eq_nil_of_length_eq_zero (hk x)
  rw [this]
  apply Array.ext
  ·simp [setMany,size_flatK]
  ·intro t h1 h2
   rw [size_flatK] at h1
   omega
 apply Array.ext
 ·simp [size_flatK]
 ·intro t h1 h2
  have ht:t < d.size * k:=by simpa [size_flatK] using h1
  rw [←getElem!_pos _ t h1,←getElem!_pos _ t h2,get_flatK _ _ _ _ (by simpa using ht),get_setMany _ _ _ t (by rw [size_flatK];exact ht),get_flatK _ _ _ _ ht,hk]
  by_cases a:t / k=i
  ·rw [if_pos ((blk_iff k i t k0).2 a),a,getElem!_set_same d i x hi]
   have:t - i * k=t % k:=by subst a;rw [Nat.mod_eq_sub_div_mul]
   rw [this]
  ·rw [if_neg (fun h=>a ((blk_iff k i t k0).1 h)),getElem!_set_other d i _ x a]
theorem SrtK.put (hk:∀ x,(enc x).length=k) (h:SrtK enc k w blk off d w1) {i:Nat} (hi:i < d.size) (x:α):SrtK enc k w blk off (d.setIfInBounds i x) (w1.setCells blk (off + i * k) (enc x)):=by
 have hik:i * k + k≤d.size * k:=by
  have:=Nat.mul_le_mul_right k (show i + 1≤d.size from hi);rwa [Nat.add_mul,Nat.one_mul] at this
 refine ⟨?_,h.lt,qgk h.grown (qhx _ _ _ _)⟩
 unfold HoldsK
 rw [flatK_put hk d i hi x]
 exact holds_setCells_c h.holds (i * k) (enc x) (by rw [hk,size_flatK];exact hik)
end
end Go.Proofs.YtnmojicfmcbgmaaGreatDoor
