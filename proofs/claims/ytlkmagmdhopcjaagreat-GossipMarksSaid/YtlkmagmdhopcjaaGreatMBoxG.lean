/- Texts that the law leans on. -/
import Derived.Deep.WholeRow
import Derived.Test.YtlkmagmdhopcjaaGreatMBase
import Derived.Lib.Builder
import Derived.Lib.AppendStr
import Derived.Lib.UnsafeStr
import Derived.RegionTactic
import Derived.Laws.Externs
import Derived.OwnWalk
import Derived.Laws.BitsAllLaws
import Derived.Laws.BitsLemmas
import Derived.IntWalk
import Derived.Laws.IdiomStrings
import Derived.Laws.MakeOwn
import Derived.Test.YtlkmagmdhopcjaaGreatShelf
namespace Go.Proofs.YtlkmagmdhopcjaaGreat
open Go.RowKit Go.Lib
def rowAt (W:World) (g:Nat):Array Value:=match W.heap[g]? with
 | some (.cells cs _ _)=>cs
 | _=>#[]
def qap (W:World) (g n:Nat):Bool:=match W.heap[g]? with
 | some (.cells cs _ fr)=>decide (cs.size=n∧fr=(0,0))
 | _=>false
theorem qbl {W:World} {g n:Nat} {cs:Array Value} {t:TypeId} (h:W.heap[g]?=some (.cells cs t (0,0))) (hn:cs.size=n):qap W g n=true:=by unfold qap;rw [h];simp [hn]
theorem qcf {W:World} {g:Nat} {cs:Array Value} {t:TypeId} {fr:Nat×Nat} (h:W.heap[g]?=some (.cells cs t fr)):rowAt W g=cs:=by unfold rowAt;rw [h]
theorem qey {W:World} {g n:Nat} (h:qap W g n=true):∃ t,W.heap[g]?=some (.cells (rowAt W g) t (0,0))∧(rowAt W g).size=n:=by
 unfold qap at h
 unfold rowAt
 split at h
 ·rename_i cs t fr e
  rw [e]
  have:=of_decide_eq_true h
  exact ⟨t,by rw [this.2],this.1⟩
 ·cases h
def qbt (cs:Array Value):Bool:=cs.all (·.oneCell')
section
variable {w:World} {b:Nat}
theorem qal {o:Obj} (h:w.heap[b]?=some o):b < w.heap.size:=by
 rcases Nat.lt_or_ge b w.heap.size with h1 | h1
 ·exact h1
 ·rw [Array.getElem?_eq_none h1] at h;cases h
theorem qqo {cs:Array Value} {t:TypeId} {fr:Nat×Nat} (h:w.heap[b]?=some (.cells cs t fr)) (j:Nat):w.cell? ⟨b,j,none⟩=cs[j]?:=Lib.cell_of_heap h j
theorem qfr {cs:Array Value} {t:TypeId} (h:w.heap[b]?=some (.cells cs t (0,0))) (j:Nat) (u:Value):(w.setCell ⟨b,j,none⟩ u).heap[b]?=some (.cells (cs.setIfInBounds j u) t (0,0)):=by
 simp [World.setCell,Array.getElem?_modify,h]
end
end Go.Proofs.YtlkmagmdhopcjaaGreat
namespace Go.Proofs.YtlkmagmdhopcjaaGreat
open Go.RowKit Go.Lib
def setL:World→Nat→List Value→Nat→World
 | W,_,[],_=>W
 | W,g,v :: l,i=>setL (W.setCell ⟨g,i,none⟩ v) g l (i + 1)
def setA:Array Value→List Value→Nat→Array Value
 | cs,[],_=>cs
 | cs,v :: l,i=>setA (cs.setIfInBounds i v) l (i + 1)
theorem qgk {g:Nat} {T:TypeId}:∀ (l:List Value) (i:Nat) (W:World) (cs:Array Value),W.heap[g]?=some (.cells cs T (0,0))→(setL W g l i).heap[g]?=some (.cells (setA cs l i) T (0,0))
 | [],_,_,_,h=>h
 | v :: l,i,_,_,h=>qgk l (i + 1) _ _ (qfr h i v)
theorem qja {g b:Nat} (hb:b≠g):∀ (l:List Value) (i:Nat) (W:World),(setL W g l i).heap[b]?=W.heap[b]?
 | [],_,_=>rfl
 | _ :: l,i,_=>(qja hb l (i + 1) _).trans (Below.heap_setCell _ _ _ _ hb)
theorem qjb {g:Nat}:∀ (l:List Value) (i:Nat) (W:World),(setL W g l i).heap.size=W.heap.size
 | [],_,_=>rfl
 | _ :: l,i,_=>(qjb l (i + 1) _).trans (by simp)
theorem qov {w W:World} {p:Addr} (h:W.heap[p.block]?=w.heap[p.block]?):W.cell? p=w.cell? p:=by simp [World.cell?,h]
theorem qby (W:World) (g:Nat) (T:TypeId) (old cs:Array Value) (hg:W.heap[g]?=some (.cells old T (0,0))) (ho:old.size=cs.size) (h1:qbt cs=true):(storeCells ⟨g,0,none⟩ cs.toList).run Tryz.prog W=.ok () (W.setRow g cs):=by
 have:=run_storeCells_from (P:=Tryz.prog) g T cs.toList 0 old W hg (by simp;omega) (fun v hv=>(Array.all_eq_true_iff_forall_mem.1 h1) v (by simpa using hv))
 simpa using this
end Go.Proofs.YtlkmagmdhopcjaaGreat
namespace Go.Proofs.YtlkmagmdhopcjaaGreat
open Go.RowKit Nb
def BldAt (T:TypeId) (r:List Value) (B b:Nat) (p:Value) (l:List UInt8) (w:World):Prop :=
 B≤b∧∃ v,w.heap[b]?=some (.cells (p :: v :: r).toArray T (0,0))∧w.ownsRow B 5 1 v l.length (Lib.byteCells l)∧v.ownBlock≠some b
def Bld (T:TypeId) (r:List Value) (B b:Nat) (l:List UInt8) (w:World):Prop:=BldAt T r B b (.pointer none) l w∨BldAt T r B b (.pointer (some ⟨b,0,none⟩)) l w
section
variable {T:TypeId} {r:List Value} {B b:Nat} {p:Value} {l:List UInt8} {w w':World}
theorem qow {base k n:Nat} {e:TypeId} {v:Value} {xs:List Value} (h:w.ownsRow base e k v n xs) (hb:Below w.heap.size w w'):w'.ownsRow base e k v n xs:=by
 obtain ⟨h1,h2⟩:=h
 refine ⟨h1,?_⟩
 rcases h2 with h2 | ⟨g,cap,cur,a1,a2,a3,a4⟩
 ·exact Or.inl h2
 ·exact Or.inr ⟨g,cap,cur,a1,a2,(hb.block g (qal a3)).trans a3,a4⟩
theorem BldAt.below (h:BldAt T r B b p l w) (hb:Below w.heap.size w w'):BldAt T r B b p l w':=by
 obtain ⟨h1,v,h2,h3,h4⟩:=h
 exact ⟨h1,v,(hb.block b (qal h2)).trans h2,qow h3 hb,h4⟩
theorem Bld.below (h:Bld T r B b l w) (hb:Below w.heap.size w w'):Bld T r B b l w':=by
 rcases h with h | h
 ·exact Or.inl (h.below hb)
 ·exact Or.inr (h.below hb)
theorem BldAt.lt (h:BldAt T r B b p l w):b < w.heap.size:=by obtain ⟨_,v,h2,_⟩:=h;exact qal h2
theorem Bld.lt (h:Bld T r B b l w):b < w.heap.size:=by
 rcases h with h | h
 ·exact h.lt
 ·exact h.lt
theorem Bld.field (h:Bld T r B b l w) (j:Nat):w.cell? ⟨b,j + 2,none⟩=r[j]?:=by
 rcases h with ⟨_,v,h2,_⟩ | ⟨_,v,h2,_⟩ <;> (rw [qqo h2];simp)
theorem BldAt.frozen (h:BldAt T r B b p l w) (j:Nat):w.frozen? ⟨b,j,none⟩=false:=by
 obtain ⟨h1,v,h2,h3,h4⟩:=h
 exact Lib.frozen_of_heap h2 j
end
def KeepT (b:Nat) (w w':World):Prop:=∀ i cs t fr,i≠b→t≠5→w.heap[i]?=some (.cells cs t fr)→w'.heap[i]?=some (.cells cs t fr)
theorem KeepT.refl (b:Nat) (w:World):KeepT b w w:=fun _ _ _ _ _ _ h=>h
theorem KeepT.trans {b:Nat} {w w1 w2:World} (h:KeepT b w w1) (k:KeepT b w1 w2):KeepT b w w2:=fun i cs t fr hi ht hh=>k i cs t fr hi ht (h i cs t fr hi ht hh)
theorem KeepT.of_below {b:Nat} {w w':World} (h:Below w.heap.size w w'):KeepT b w w':=fun i _ _ _ _ _ hh=>(h.block i (qal hh)).trans hh
theorem KeepT.set {b:Nat} {w w':World} (h:KeepT b w w') (j:Nat) (u:Value):KeepT b w (w'.setCell ⟨b,j,none⟩ u):=fun i cs t fr hi ht hh=>(Below.heap_setCell w' ⟨b,j,none⟩ u i hi).trans (h i cs t fr hi ht hh)
theorem KeepT.grown {b n:Nat} {w w1 w2:World} {B:Nat} {v:Value} {xs:List Value} (h:KeepT b w w1) (hown:w1.ownsRow B 5 1 v n xs) (hg:w1.grownBy w2 v.ownBlock):KeepT b w w2:=fun i cs t fr hi ht hh=>by
 have h1:=h i cs t fr hi ht hh
 rw [hg.block i (qal h1) (fun e=>Lib.ownBlock_ne hown h1 ht e.symm)]
 exact h1
end Go.Proofs.YtlkmagmdhopcjaaGreat
