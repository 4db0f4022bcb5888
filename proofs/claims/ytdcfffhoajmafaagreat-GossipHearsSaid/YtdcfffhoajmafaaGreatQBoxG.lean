/- Texts that the law leans on. -/
import Derived.Deep.WholeRow
import Derived.Test.YtdcfffhoajmafaaGreatQBase
namespace Go.Proofs.YtdcfffhoajmafaaGreat
open Go.RowKit Go.Lib Go.Proofs.Tryz
def rowAt (W:World) (g:Nat):Array Value:=match W.heap[g]? with
 | some (.cells cs _ _)=>cs
 | _=>#[]
def qdd (W:World) (g n:Nat):Bool:=match W.heap[g]? with
 | some (.cells cs _ fr)=>decide (cs.size=n/\fr=(0,0))
 | _=>false
theorem qdx {W:World} {g n:Nat} {cs:Array Value} {t:TypeId} (h:W.heap[g]?=some (.cells cs t (0,0))) (a:cs.size=n):qdd W g n=true:=by unfold qdd;rw [h];simp [a]
theorem qef {W:World} {g:Nat} {cs:Array Value} {t:TypeId} {fr:Nat×Nat} (h:W.heap[g]?=some (.cells cs t fr)):rowAt W g=cs:=by unfold rowAt;rw [h]
theorem qjk {W:World} {g n:Nat} (h:qdd W g n=true):∃ t,W.heap[g]?=some (.cells (rowAt W g) t (0,0))/\(rowAt W g).size=n:=by
 unfold qdd at h;unfold rowAt;split at h
 .rename_i a t b e
  rw [e]
  have:=vdm h
  exact ⟨t,by rw [this.2],this.1⟩
 cases h
def qfy (cs:Array Value):Bool:=cs.all (·.oneCell')
section
variable {w:World} {b:Nat}
theorem qbi {o:Obj} (h:w.heap[b]?=some o):b < w.heap.size:=by
 rcases val b w.heap.size with a | a
 .exact a
 rw [vbn a] at h;cases h
theorem heap_cell {cs:Array Value} {t:TypeId} {fr:Nat×Nat} (h:w.heap[b]?=some (.cells cs t fr)) (j:Nat):w.cell? ⟨b,j,none⟩=cs[j]?:=Lib.cell_of_heap h j
end
end Go.Proofs.YtdcfffhoajmafaaGreat
namespace Go.Proofs.YtdcfffhoajmafaaGreat
open Go.RowKit Nb Go.Proofs.Tryz
def BldAt (T:TypeId) (r:List Value) (B b:Nat) (p:Value) (l:List UInt8) (w:World):Prop :=
 B<=b/\∃ v,w.heap[b]?=some (.cells (p :: v :: r).toArray T (0,0))/\w.ownsRow B 5 1 v l.length (Lib.byteCells l)/\v.ownBlock≠some b
def Bld (T:TypeId) (r:List Value) (B b:Nat) (l:List UInt8) (w:World):Prop:=BldAt T r B b (.pointer none) l w\/BldAt T r B b (.pointer (some ⟨b,0,none⟩)) l w
section
variable {T:TypeId} {r:List Value} {B b:Nat} {p:Value} {l:List UInt8} {w w':World}
theorem qpi {a k n:Nat} {e:TypeId} {v:Value} {i:List Value} (h:w.ownsRow a e k v n i) (p:Below w.heap.size w w'):w'.ownsRow a e k v n i:=by
 obtain ⟨o,d⟩:=h;refine ⟨o,?_⟩;rcases d with d | ⟨g,b,c,j,l,f,m⟩
 .exact Or.inl d
 exact Or.inr ⟨g,b,c,j,l,(p.block g (qbi f)).trans f,m⟩
theorem BldAt.below (h:BldAt T r B b p l w) (c:Below w.heap.size w w'):BldAt T r B b p l w':=by
 obtain ⟨d,v,a,e,f⟩:=h;exact ⟨d,v,(c.block b (qbi a)).trans a,qpi e c,f⟩
theorem Bld.below (h:Bld T r B b l w) (a:Below w.heap.size w w'):Bld T r B b l w':=by
 rcases h with h | h
 .exact Or.inl (h.below a)
 exact Or.inr (h.below a)
theorem BldAt.lt (h:BldAt T r B b p l w):b < w.heap.size:=by obtain ⟨_,v,a,_⟩:=h;exact qbi a
theorem Bld.lt (h:Bld T r B b l w):b < w.heap.size:=by
 rcases h with h | h
 .exact h.lt
 exact h.lt
theorem Bld.field (h:Bld T r B b l w) (j:Nat):w.cell? ⟨b,j + 2,none⟩=r[j]?:=by
 rcases h with ⟨_,v,a,_⟩ | ⟨_,v,a,_⟩ <;> (rw [heap_cell a];simp)
theorem BldAt.frozen (h:BldAt T r B b p l w) (j:Nat):w.frozen? ⟨b,j,none⟩=false:=by
 obtain ⟨c,v,a,d,e⟩:=h;exact Lib.frozen_of_heap a j
end
def KeepT (b:Nat) (w w':World):Prop:=∀ i cs t fr,i≠b->t≠5->w.heap[i]?=some (.cells cs t fr)->w'.heap[i]?=some (.cells cs t fr)
theorem KeepT.refl (b:Nat) (w:World):KeepT b w w:=fun _ _ _ _ _ _ h=>h
theorem KeepT.trans {b:Nat} {w f g:World} (h:KeepT b w f) (k:KeepT b f g):KeepT b w g:=fun i a t c d e j=>k i a t c d e (h i a t c d e j)
theorem KeepT.set {b:Nat} {w w':World} (h:KeepT b w w') (j:Nat) (u:Value):KeepT b w (w'.setCell ⟨b,j,none⟩ u):=fun i c t d a f e=>(vfa w' ⟨b,j,none⟩ u i a).trans (h i c t d a f e)
theorem KeepT.grown {b n:Nat} {w d g:World} {B:Nat} {v:Value} {p:List Value} (h:KeepT b w d) (a:d.ownsRow B 5 1 v n p) (l:d.grownBy g v.ownBlock):KeepT b w g:=fun i j t k o f m=>by
 have c:=h i j t k o f m;rw [l.block i (qbi c) (fun e=>Lib.ownBlock_ne a c f e.symm)];exact c
end Go.Proofs.YtdcfffhoajmafaaGreat
namespace Go.Proofs.YtdcfffhoajmafaaGreat
open Go.RowKit Go.Lib Go.Proofs.Tryz
theorem cell_far {w W:World} {p:Addr} (h:W.heap[p.block]?=w.heap[p.block]?):W.cell? p=w.cell? p:=by simp [World.cell?,h]
theorem qdi (W:World) (g:Nat) (T:TypeId) (a cs:Array Value) (c:W.heap[g]?=some (.cells a T (0,0))) (e:a.size=cs.size) (b:qfy cs=true):(storeCells ⟨g,0,none⟩ cs.toList).run prog W=.ok () (W.setRow g cs):=by
 have:=run_storeCells_from (P:=prog) g T cs.toList 0 a W c jso (fun v d=>(Array.all_eq_true_iff_forall_mem.1 b) v (by simpa using d))
 simpa using this
end Go.Proofs.YtdcfffhoajmafaaGreat
