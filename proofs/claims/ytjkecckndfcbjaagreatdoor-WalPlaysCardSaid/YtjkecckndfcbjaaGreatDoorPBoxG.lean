/- Texts that the law leans on. -/
import Derived.Deep.WholeRow
import Derived.Test.YtjkecckndfcbjaaGreatDoorPBase
import Derived.Lib.Builder
import Derived.Lib.AppendStr
import Derived.Lib.UnsafeStr
import Derived.RegionTactic
import Derived.Laws.Externs
import Derived.OwnWalk
namespace Go.Proofs.YtjkecckndfcbjaaGreatDoor
open Go.RowKit Go.Lib
def qwm (W:World) (g:Nat):Array Value:=match W.heap[g]? with
 | some (.cells cs _ _)=>cs
 | _=>#[]
def qpj (W:World) (g n:Nat):Bool:=match W.heap[g]? with
 | some (.cells cs _ fr)=>decide (cs.size=n∧fr=(0,0))
 | _=>false
theorem qtp {W:World} {g n:Nat} {cs:Array Value} {t:TypeId} (h:W.heap[g]?=some (.cells cs t (0,0))) (hn:cs.size=n):qpj W g n=true:=by unfold qpj;rw [h];simp [hn]
theorem rowAt_of {W:World} {g:Nat} {cs:Array Value} {t:TypeId} {fr:Nat×Nat} (h:W.heap[g]?=some (.cells cs t fr)):qwm W g=cs:=by unfold qwm;rw [h]
theorem qtq {W:World} {g n:Nat} (h:qpj W g n=true):∃ t,W.heap[g]?=some (.cells (qwm W g) t (0,0))∧(qwm W g).size=n:=by
 unfold qpj at h
 unfold qwm
 split at h
 ·rename_i cs t fr e
  rw [e]
  have:=of_decide_eq_true h
  exact ⟨t,by rw [this.2],this.1⟩
 ·cases h
def qtr (cs:Array Value):Bool:=cs.all (·.oneCell')
section
variable {w:World} {b:Nat}
theorem qaa {o:Obj} (h:w.heap[b]?=some o):b < w.heap.size:=by
 rcases Nat.lt_or_ge b w.heap.size with h1 | h1
 ·exact h1
 ·rw [Array.getElem?_eq_none h1] at h;cases h
theorem qac {cs:Array Value} {t:TypeId} {fr:Nat×Nat} (h:w.heap[b]?=some (.cells cs t fr)) (j:Nat):w.cell? ⟨b,j,none⟩=cs[j]?:=Lib.cell_of_heap h j
theorem qae {cs:Array Value} {t:TypeId} (h:w.heap[b]?=some (.cells cs t (0,0))) (j:Nat) (u:Value):(w.setCell ⟨b,j,none⟩ u).heap[b]?=some (.cells (cs.setIfInBounds j u) t (0,0)):=by
 simp [World.setCell,Array.getElem?_modify,h]
end
end Go.Proofs.YtjkecckndfcbjaaGreatDoor
namespace Go.Proofs.YtjkecckndfcbjaaGreatDoor
open Go.RowKit Nb
def BldAt (T:TypeId) (r:List Value) (B b:Nat) (p:Value) (l:List UInt8) (w:World):Prop :=
 B≤b∧∃ v,w.heap[b]?=some (.cells (p :: v :: r).toArray T (0,0))∧w.ownsRow B 5 1 v l.length (Lib.byteCells l)∧v.ownBlock≠some b
def Bld (T:TypeId) (r:List Value) (B b:Nat) (l:List UInt8) (w:World):Prop:=BldAt T r B b (.pointer none) l w∨BldAt T r B b (.pointer (some ⟨b,0,none⟩)) l w
structure LiesB (T:TypeId) (k:Nat):Prop where
 lies:liesAt Tryz.prog Tryz.prog.depth T (k / Tryz.prog.cellsOf T) 0 212 1=true
 ne:T≠5
theorem sizeBld:(Tryz.prog.info? 212).map (fun i=>i.size)=some 2:=by kernel_rfl
section
variable {T:TypeId} {r:List Value} {B b:Nat} {p:Value} {l:List UInt8} {w w':World}
theorem qnf {base k n:Nat} {e:TypeId} {v:Value} {xs:List Value} (h:w.ownsRow base e k v n xs) (hb:Below w.heap.size w w'):w'.ownsRow base e k v n xs:=by
 obtain ⟨h1,h2⟩:=h
 refine ⟨h1,?_⟩
 rcases h2 with h2 | ⟨g,cap,cur,a1,a2,a3,a4⟩
 ·exact Or.inl h2
 ·exact Or.inr ⟨g,cap,cur,a1,a2,(hb.block g (qaa a3)).trans a3,a4⟩
theorem BldAt.below (h:BldAt T r B b p l w) (hb:Below w.heap.size w w'):BldAt T r B b p l w':=by
 obtain ⟨h1,v,h2,h3,h4⟩:=h
 exact ⟨h1,v,(hb.block b (qaa h2)).trans h2,qnf h3 hb,h4⟩
theorem Bld.below (h:Bld T r B b l w) (hb:Below w.heap.size w w'):Bld T r B b l w':=by
 rcases h with h | h
 ·exact Or.inl (h.below hb)
 ·exact Or.inr (h.below hb)
theorem BldAt.lt (h:BldAt T r B b p l w):b < w.heap.size:=by obtain ⟨_,v,h2,_⟩:=h;exact qaa h2
theorem Bld.lt (h:Bld T r B b l w):b < w.heap.size:=by
 rcases h with h | h
 ·exact h.lt
 ·exact h.lt
theorem Bld.field (h:Bld T r B b l w) (j:Nat):w.cell? ⟨b,j + 2,none⟩=r[j]?:=by
 rcases h with ⟨_,v,h2,_⟩ | ⟨_,v,h2,_⟩ <;> (rw [qac h2];simp)
theorem qts {base k n:Nat} {e:TypeId} {v:Value} {xs:List Value} (h:w.ownsRow base e k v n xs) (hne:v.ownBlock≠some b) (j:Nat) (u:Value):(w.setCell ⟨b,j,none⟩ u).ownsRow base e k v n xs :=
 h.kept (row:=some b) ⟨rfl,rfl,rfl,by simp [World.setCell],fun k _ hk=>Below.heap_setCell _ _ _ _ (fun e=>hk (by simp [e]))⟩ (Or.inr hne)
theorem BldAt.used (h:BldAt T r B b p l w) (q:Value):BldAt T r B b q l (w.setCell ⟨b,0,none⟩ q):=by
 obtain ⟨h1,v,h2,h3,h4⟩:=h
 exact ⟨h1,v,by rw [qae h2];rfl,qts h3 h4 0 q,h4⟩
theorem BldAt.shape (h:BldAt T r B b p l w):w.shape? b=some (T,2 + r.length):=by
 obtain ⟨h1,v,h2,h3,h4⟩:=h
 simp [World.shape?,h2];omega
theorem BldAt.cell0 (h:BldAt T r B b p l w):w.cell? ⟨b,0,none⟩=some p:=by
 obtain ⟨h1,v,h2,h3,h4⟩:=h
 rw [qac h2];rfl
theorem BldAt.frozen (h:BldAt T r B b p l w) (j:Nat):w.frozen? ⟨b,j,none⟩=false:=by
 obtain ⟨h1,v,h2,h3,h4⟩:=h
 exact Lib.frozen_of_heap h2 j
end
def KeepT (b:Nat) (w w':World):Prop:=∀ i cs t fr,i≠b→t≠5→w.heap[i]?=some (.cells cs t fr)→w'.heap[i]?=some (.cells cs t fr)
theorem KeepT.refl (b:Nat) (w:World):KeepT b w w:=fun _ _ _ _ _ _ h=>h
theorem KeepT.trans {b:Nat} {w w1 w2:World} (h:KeepT b w w1) (k:KeepT b w1 w2):KeepT b w w2:=fun i cs t fr hi ht hh=>k i cs t fr hi ht (h i cs t fr hi ht hh)
theorem KeepT.of_below {b:Nat} {w w':World} (h:Below w.heap.size w w'):KeepT b w w':=fun i _ _ _ _ _ hh=>(h.block i (qaa hh)).trans hh
theorem KeepT.set {b:Nat} {w w':World} (h:KeepT b w w') (j:Nat) (u:Value):KeepT b w (w'.setCell ⟨b,j,none⟩ u):=fun i cs t fr hi ht hh=>(Below.heap_setCell w' ⟨b,j,none⟩ u i hi).trans (h i cs t fr hi ht hh)
theorem KeepT.grown {b n:Nat} {w w1 w2:World} {B:Nat} {v:Value} {xs:List Value} (h:KeepT b w w1) (hown:w1.ownsRow B 5 1 v n xs) (hg:w1.grownBy w2 v.ownBlock):KeepT b w w2:=fun i cs t fr hi ht hh=>by
 have h1:=h i cs t fr hi ht hh
 rw [hg.block i (qaa h1) (fun e=>Lib.ownBlock_ne hown h1 ht e.symm)]
 exact h1
set_option maxRecDepth 100000 in
theorem qng (T:TypeId) (r:List Value) (B b:Nat) (l:List UInt8) (w:World) (hT:LiesB T (2 + r.length)) (h:Bld T r B b l w) :
 Calls Tryz.prog 160 #[.pointer (some ⟨b,0,none⟩)] w fun e w'=>e=.returned (.tuple #[])∧BldAt T r B b (.pointer (some ⟨b,0,none⟩)) l w'∧Below B w w'∧KeepT b w w':=by
 obtain ⟨j,hj,hjs⟩:=Option.map_eq_some_iff.1 sizeBld
 rcases h with h | h
 ·have h0:=h.cell0
  have hf:=h.frozen 0
  have r1:=Lib.run_to_unsafe (P:=Tryz.prog) w ⟨b,0,none⟩ Tryz.underlying209 Tryz.underlying146 hj (by rw [hjs];decide) h.shape (show 0 < 2 + r.length by omega)
  have r2:=@run_callFunc_extern Tryz.prog 174 _ Extern.AbiNoEscape.same Tryz.func174 (by kernel_rfl) (by kernel_rfl) (by kernel_rfl) (by kernel_rfl)
  have r3:=fun x=>Lib.run_noEscape (P:=Tryz.prog) w x
  have r4:=Lib.run_from_unsafe (P:=Tryz.prog) w ⟨b,0,none⟩ Tryz.underlying146 Tryz.underlying209 hj h.shape hT.lies
  have H:=hI h
  clear h hj hjs hT
  go_enter Tryz.func160,Tryz.ntmps160
  go_wp2
  go_end0
  exact ⟨rfl,H.out.used _,(Below.refl B w).setCell (p:=⟨b,0,none⟩) H.out.1 _,(KeepT.refl b w).set 0 _⟩
 ·have h0:=h.cell0
  have r1:=Lib.run_neq_ptr_same (P:=Tryz.prog) w ⟨b,0,none⟩ Tryz.underlying209 hj
  have H:=hI h
  clear h hj hjs hT
  go_enter Tryz.func160,Tryz.ntmps160
  go_wp2
  go_end0
  exact ⟨rfl,H.out,Below.refl B _,KeepT.refl b _⟩
set_option maxRecDepth 100000 in
set_option maxHeartbeats 1000000 in
theorem qkj (T:TypeId) (r:List Value) (B b:Nat) (l:List UInt8) (s:ByteArray) (w:World) (hT:LiesB T (2 + r.length)) (h:Bld T r B b l w) (hlen:l.length + s.size≤1000000000) (hBw:B≤w.heap.size) :
 Calls Tryz.prog 153 #[.pointer (some ⟨b,0,none⟩),.string s] w fun e w'=>e=.returned (.tuple #[.int .i64 s.size,.nilIface])∧BldAt T r B b (.pointer (some ⟨b,0,none⟩)) (l ++ s.data.toList) w'∧Below B w w'∧KeepT b w w':=by
 obtain ⟨i0,hi0,hz0,hz1,hz2⟩:=info_parts qpe
 have HC:=hI (qng T r B b l w hT h)
 have HT:=hI hT.ne
 clear h hT
 go_enter Tryz.func153,Tryz.ntmps153
 go_wp2_with fail
 refine HC.out.mono ?_
 rintro e w1 ⟨rfl,h1,hb1,hk1⟩
 obtain ⟨hB,v,hbk,hown,hne⟩:=h1
 have c1:w1.cell? ⟨b,1,none⟩=some v:=by rw [qac hbk];rfl
 have HBK:=hI hbk
 have HB1:=hI hb1
 have hsz:B≤w1.heap.size:=Nat.le_trans hBw hb1.size
 have hl:(Lib.byteCells l).length=l.length:=Lib.byteCells_length l
 have HL:=hI hl
 clear hbk hb1 hl
 go_wp2_with (at_builtin;refine Lib.wpList_append_own_string _ rfl _ _ 210 9 rfl B 5 i0 Tryz.underlying210 Tryz.underlying9 hi0 hz0 hz1 hz2 _ _ _ rfl hown s rfl (by unfold maxLen;omega) (by omega) hsz ?_)
 intro v' w2 hown' hgrow _
 have hlt:=qaa HBK.out
 have hb2:w2.heap[b]?=some (.cells (Value.pointer (some ⟨b,0,none⟩) :: v :: r).toArray T (0,0)):=by
  rw [hgrow.block b hlt (fun e=>hne e.symm)]
  exact HBK.out
 have d1:w2.cell? ⟨b,1,none⟩=some v:=by rw [qac hb2];rfl
 have f1:w2.frozen? ⟨b,1,none⟩=false:=Lib.frozen_of_heap hb2 1
 obtain ⟨ao,n',cap,rfl⟩:∃ ao n' cap,v'=.slice ao n' cap:=by
  rcases hown'.2 with ⟨hv,_⟩ | ⟨g,cap,cur,hv,_⟩
  ·exact ⟨_,_,_,hv⟩
  ·exact ⟨_,_,_,hv⟩
 have hne2:=Lib.ownBlock_ne hown' hb2 HT.out
 have hbe:Below B w w2:=HB1.out.grown hgrow hsz (fun k hk=>(hown.lt k hk).1)
 have HO:=hI hown'
 have HB2:=hI hb2
 have HBE:=hI hbe
 have HK:=hI (hk1.grown hown hgrow)
 clear hgrow hown' hb2 hbe hown c1 hne hk1
 go_wp2
 go_ret2
 refine ⟨rfl,⟨hB,_,by rw [qae HB2.out];rfl,?_,hne2⟩,HBE.out.setCell (p:=⟨b,1,none⟩) hB _,HK.out.set 1 _⟩
 refine qts ?_ hne2 1 _
 have:=HO.out
 rw [Lib.byteCells_append,List.length_append]
 have e1:s.data.toList.length=s.size:=by simp
 rw [e1]
 exact this
set_option maxRecDepth 100000 in
set_option maxHeartbeats 1000000 in
theorem qwn (T:TypeId) (r:List Value) (B b:Nat) (l:List UInt8) (w:World) (h:Bld T r B b l w) (h0:l≠[]) :
 Calls Tryz.prog 143 #[.pointer (some ⟨b,0,none⟩)] w fun e w'=>e=.returned (.string ⟨l.toArray⟩)∧Below B w w':=by
 obtain ⟨p,hB,v,hbk,hown,hne⟩:∃ p,BldAt T r B b p l w:=by
  rcases h with h | h
  ·exact ⟨_,h⟩
  ·exact ⟨_,h⟩
 have hl0:l.length≠0:=by simpa using h0
 obtain ⟨g,cap,cur,rfl,hbg,hg,hnc,hcm,hcs,htake⟩:∃ g cap cur,v=.slice (some ⟨g,0,none⟩) l.length cap∧B≤g∧w.heap[g]?=some (.cells cur 5 (0,0))∧l.length≤cap∧cap≤maxLen∧cur.size=cap * 1∧cur.toList.take (l.length * 1)=Lib.byteCells l:=by
  rcases hown.2 with ⟨_,hz⟩ | ⟨g,cap,cur,hv,r⟩
  ·exact absurd hz hl0
  ·exact ⟨g,cap,cur,hv,r⟩
 have c1:w.drew.cell? ⟨b,1,none⟩=some (.slice (some ⟨g,0,none⟩) l.length cap):=by
  have h':w.drew.heap[b]?=some (.cells (p :: .slice (some ⟨g,0,none⟩) l.length cap :: r).toArray T (0,0)):=hbk
  rw [qac h'];rfl
 have hSD:(Builtin.unsafeSliceData_ #[210] 257 #[.slice (some ⟨g,0,none⟩) l.length cap]).run Tryz.prog w.drew=.ok (.pointer (some ⟨g,0,none⟩)) w.drew :=
  Lib.run_unsafeSliceData_row _ _ _ _ _ _ (by omega)
 have hUS:(Builtin.unsafeString_ #[257,3] 9 #[.pointer (some ⟨g,0,none⟩),.int .i64 l.length]).run Tryz.prog w.drew=.ok (.string ⟨l.toArray⟩) (w.drew.freeze ⟨g,0,none⟩ l.length):=by
  refine Lib.run_unsafeString_row w.drew 257 3 9 5 Tryz.underlying257 (by kernel_rfl) g cur.size (by have hg':w.drew.heap[g]?=some (.cells cur 5 (0,0)):=hg;simp [World.shape?,hg']) l h0 (by omega) (by unfold maxLen at hcm;omega) ?_
  intro j x hx
  exact hown.cells (g:=g) rfl j (.int .u8 x.toNat) (by simp [Lib.byteCells,hx])
 have HBG:=hI hbg
 clear hown hne hbk hg hcs htake hcm hl0 h0 h hbg
 go_enter Tryz.func143,Tryz.ntmps143
 go_wp2
 go_region
 all_goals (go_wp2;go_ret;exact ⟨rfl,Lib.below_freeze (Below.drew (Below.refl B w)) (p:=⟨g,0,none⟩) HBG.out _⟩)
end Go.Proofs.YtjkecckndfcbjaaGreatDoor
