/- Texts that the law leans on. -/
import Derived.Shelf.GgSortFunc.RowK
import Derived.Test.YtjkecckndfcbjaaGreatDoorPBase
namespace Go.Proofs.YtjkecckndfcbjaaGreatDoor
open Go.RowKit Go.Sort
section
variable {α:Type} [Inhabited α] {enc:α→List Value} {k:Nat} {w w':World} {A:Option Addr} {d:Array α} {B:Nat}
def RdK (enc:α→List Value) (k:Nat) (B:Nat) (w:World) (A:Option Addr) (d:Array α):Prop :=
 0 < d.size→∃ b off,A=some ⟨b,off,none⟩∧b < B∧∀ t,t < d.size * k→w.cell? ⟨b,off + t,none⟩=some (flatK enc k d)[t]!
theorem RdK.below (h:RdK enc k B w A d) (hb:Below B w w'):RdK enc k B w' A d:=fun h0=>by
 obtain ⟨b,off,e,hlt,hc⟩:=h h0
 exact ⟨b,off,e,hlt,fun t ht=>(hb.cell (p:=⟨b,off + t,none⟩) hlt).trans (hc t ht)⟩
theorem RdK.mono {B':Nat} (h:RdK enc k B w A d) (hB:B≤B'):RdK enc k B' w A d:=fun h0=>by
 obtain ⟨b,off,e,hlt,hc⟩:=h h0
 exact ⟨b,off,e,by omega,hc⟩
theorem RdK.alloc (h:RdK enc k B w A d) (hB:B≤w.heap.size) (o:Obj):RdK enc k B (w.alloc o) A d:=h.below ((Below.refl _ _).alloc hB o)
theorem flat_at (enc:α→List Value) (k:Nat) (d:Array α) (i c:Nat) (hi:i < d.size) (hc:c < k):(flatK enc k d)[i * k + c]! = (enc d[i]!)[c]!:=by
 have lt:i * k + c < d.size * k:=by
  have:=Nat.mul_le_mul_right k (show i + 1≤d.size from hi);rw [Nat.add_mul,Nat.one_mul] at this;omega
 have e1:(i * k + c) / k=i:=(blk_iff k i _ (by omega)).1 ⟨by omega,by omega⟩
 have e2:(i * k + c) % k=c:=by rw [Nat.mod_eq_sub_div_mul,e1];omega
 rw [get_flatK _ _ _ _ lt,e1,e2]
theorem lt_flat {i c n k:Nat} (hi:i < n) (hc:c < k):i * k + c < n * k:=by
 have:=Nat.mul_le_mul_right k (show i + 1≤n from hi);rw [Nat.add_mul,Nat.one_mul] at this;omega
theorem RdK.at_ (h:RdK enc k B w A d) {i:Nat} (hi:i < d.size):∃ b off,A=some ⟨b,off,none⟩∧b < B∧∀ c,c < k→w.cell? ⟨b,off + i * k + c,none⟩=some (enc d[i]!)[c]!:=by
 obtain ⟨b,off,e,hlt,hc⟩:=h (by omega)
 exact ⟨b,off,e,hlt,fun c hck=>by rw [Nat.add_assoc,hc _ (lt_flat hi hck),flat_at _ _ _ _ _ hi hck]⟩
theorem RdK.of_holds {b off:Nat} (h:HoldsK enc k w b off d) (hb:b < B):RdK enc k B w (some ⟨b,off,none⟩) d:=fun _ =>
 ⟨b,off,rfl,hb,fun t ht=>(h t (by rw [size_flatK];exact ht)).1⟩
theorem qic {base:Nat} {e:TypeId} {v:Value} (h:w.ownsRow base e k v d.size (flatK enc k d).toList) (hn:v≠.slice none 0 0) :
 ∃ g cap,v=.slice (some ⟨g,0,none⟩) d.size cap∧base≤g∧g < w.heap.size∧HoldsK enc k w g 0 d:=by
 obtain ⟨_,⟨h1,_⟩ | ⟨g,cap,cur,hv,hb,hh,hnc,hmx,hcur,htk⟩⟩:=h
 ·exact absurd h1 hn
 ·have hlt:g < w.heap.size:=by
   rcases Nat.lt_or_ge g w.heap.size with h | h
   ·exact h
   ·rw [Array.getElem?_eq_none h] at hh;cases hh
  refine ⟨g,cap,hv,hb,hlt,fun t ht=>?_⟩
  rw [size_flatK] at ht
  have e1:cur.toList[t]?=(flatK enc k d).toList[t]?:=by rw [←htk,List.getElem?_take_of_lt ht]
  have e2:(flatK enc k d).toList[t]?=some (flatK enc k d)[t]!:=by
   have:t < (flatK enc k d).size:=by rw [size_flatK];exact ht
   rw [Array.getElem?_toList,Array.getElem?_eq_getElem this,getElem!_pos _ t this]
  rw [e2,Array.getElem?_toList] at e1
  exact ⟨by simp [World.cell?,hh,e1],by simp [World.frozen?,hh]⟩
theorem qjx (w:World) (cs:Array Value) (e:TypeId) (t:Nat):(w.alloc (.cells cs e)).cell? ⟨w.heap.size,t,none⟩=cs[t]?:=by
 have:(w.alloc (.cells cs e)).heap[w.heap.size]?=some (.cells cs e (0,0)):=by show (w.heap.push _)[w.heap.size]?=_;simp
 unfold World.cell?
 simp only [this]
 rfl
theorem new_cells (w:World) (enc:α→List Value) (k:Nat) (d:Array α) (e:TypeId) (cs:Array Value) (h:cs=flatK enc k d) (t:Nat) (ht:t < d.size * k):(w.alloc (.cells cs e)).cell? ⟨w.heap.size,0 + t,none⟩=some (flatK enc k d)[t]!:=by
 have hs:t < (flatK enc k d).size:=by rw [size_flatK];exact ht
 rw [qjx,Nat.zero_add,h,Array.getElem?_eq_getElem hs,getElem!_pos _ t hs]
theorem RdK.new (w:World) (enc:α→List Value) (k:Nat) (d:Array α) (e:TypeId) (cs:Array Value) (h:cs=flatK enc k d):RdK enc k (w.heap.size + 1) (w.alloc (.cells cs e)) (some ⟨w.heap.size,0,none⟩) d:=fun _ =>
 ⟨_,_,rfl,Nat.lt_succ_self _,fun t ht=>new_cells w enc k d e cs h t ht⟩
end
end Go.Proofs.YtjkecckndfcbjaaGreatDoor
