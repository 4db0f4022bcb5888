/- Texts that the law leans on. -/
import Derived.RangeFuncNested
import Derived.RangeFuncBound
import Derived.RangeFuncCalls
import Derived.RangeFuncLeaves
import Derived.Shelf.Abstract
import Derived.Shelf.RegionOpen
import Derived.OwnWalkIn
import Derived.TacticsInMore
import Derived.LoopNIn
import Derived.LoopIn
import Derived.Maps.AppendAt
import Derived.Test.YtnmojicfmcbgmaaGreatDoorQRangesE
import Derived.OrdersIn
import Derived.StillTail
import Derived.Test.YtnmojicfmcbgmaaGreatDoorQBase
import Derived.Laws.StructEq
namespace Go.Proofs.YtnmojicfmcbgmaaGreatDoor
open Go.RowKit Go.Sort Go.Lib Go.Shelf
attribute [local go_sem] Oper.semAt_some
def Kg (g:Nat) (W W':World):Prop:=W.heap.size≤W'.heap.size∧W'.heap[g]?=W.heap[g]?
theorem Kg.refl (g:Nat) (W:World):Kg g W W:=⟨Nat.le_refl _,rfl⟩
theorem Kg.trans {g:Nat} {A B C:World} (h:Kg g A B) (k:Kg g B C):Kg g A C:=⟨Nat.le_trans h.1 k.1,k.2.trans h.2⟩
theorem Kg.alloc {g:Nat} {W W':World} (h:Kg g W W') (hg:g < W.heap.size) (o:Obj):Kg g W (W'.alloc o) :=
 ⟨by have:=h.1;simp;omega,(Below.heap_alloc W' o g (by have:=h.1;omega)).trans h.2⟩
theorem Kg.rd {α:Type} [Inhabited α] {enc:α→List Value} {k g off:Nat} {W W':World} {d:Array α} (h:Kg g W W') (hg:g < W.heap.size) (hr:RdK enc k W.heap.size W (some ⟨g,off,none⟩) d):RdK enc k W'.heap.size W' (some ⟨g,off,none⟩) d:=fun h0=>by
 obtain ⟨b,off',e,_,hc⟩:=hr h0
 injection e with e
 injection e with e1 e2
 subst e1 e2
 refine ⟨g,off,rfl,Nat.lt_of_lt_of_le hg h.1,fun t ht=>?_⟩
 have:=hc t ht
 unfold World.cell? at this ⊢
 simpa only [h.2] using this
end Go.Proofs.YtnmojicfmcbgmaaGreatDoor
namespace Go.Proofs.YtnmojicfmcbgmaaGreatDoor
open Go.RowKit Go.Sort Go.Lib Go.Shelf
attribute [local go_sem] Oper.semAt_some
def addF (out:Array (Int×Int)) (x:Int×Int):Array (Int×Int) :=
 if 0 < out.size∧x.1≤out[out.size - 1]!.2 + 1 then out.set! (out.size - 1) (out[out.size - 1]!.1,max out[out.size - 1]!.2 x.2) else out.push x
def formF (l:List (Int×Int)):Array (Int×Int):=l.foldl addF #[]
theorem addF_size (out:Array (Int×Int)) (x:Int×Int):(addF out x).size≤out.size + 1:=by unfold addF;split <;> simp
theorem qnn:∀ (l:List (Int×Int)) (out:Array (Int×Int)),(l.foldl addF out).size≤out.size + l.length
 | [],_=>by simp
 | x :: l,out=>by
   have:=qnn l (addF out x)
   have:=addF_size out x
   simp only [List.foldl_cons,List.length_cons]
   omega
end Go.Proofs.YtnmojicfmcbgmaaGreatDoor
namespace Go.Proofs.YtnmojicfmcbgmaaGreatDoor
open Go.RowKit Go.Sort Go.Lib
def NL (l:List (Int×Int)):Prop:=(∀ x ∈ l,1≤x.1∧x.1≤x.2∧x.2≤1000000)∧l.Pairwise (fun x y=>x.2 + 1 < y.1)
theorem qmd {n:Int} {x:Int×Int}:qec n x=true↔x.1≤n∧n≤x.2:=by unfold qec;simp
theorem qtd {l:List (Int×Int)} {n:Int}:l.any (qec n)=true↔∃ x ∈ l,x.1≤n∧n≤x.2:=by simp [List.any_eq_true,qmd]
theorem qme {d:Array (Int×Int)} {n:Int}:inR d n=true↔∃ x ∈ d.toList,x.1≤n∧n≤x.2:=qtd
theorem NL.tail {x:Int×Int} {l:List (Int×Int)} (h:NL (x :: l)):NL l:=⟨fun y hy=>h.1 y (by simp [hy]),(List.pairwise_cons.1 h.2).2⟩
theorem NL.gt {x:Int×Int} {l:List (Int×Int)} (h:NL (x :: l)) {n:Int} (hn:l.any (qec n)=true):x.2 + 1 < n:=by
 obtain ⟨y,hy,h1,_⟩:=qtd.1 hn
 have:=(List.pairwise_cons.1 h.2).1 y hy
 omega
theorem any_cons {x:Int×Int} {l:List (Int×Int)} {n:Int}:(x :: l).any (qec n)=true↔(x.1≤n∧n≤x.2)∨l.any (qec n)=true:=by
 rw [List.any_cons,Bool.or_eq_true,qmd]
theorem NL.first {x y:Int×Int} {l m:List (Int×Int)} (h:NL (x :: l)) (k:NL (y :: m)) (e:∀ n,(x :: l).any (qec n)=true→(y :: m).any (qec n)=true):y.1≤x.1∧(x.1=y.1→x.2≤y.2):=by
 have hx:=h.1 x (by simp)
 have hy:=k.1 y (by simp)
 constructor
 ·rcases any_cons.1 (e x.1 (any_cons.2 (Or.inl ⟨by omega,by omega⟩))) with h1 | h1
  ·omega
  ·have:=k.gt h1;omega
 ·intro e1
  rcases Int.lt_or_le y.2 x.2 with hl | hl
  ·rcases any_cons.1 (e (y.2 + 1) (any_cons.2 (Or.inl ⟨by omega,by omega⟩))) with h1 | h1
   ·omega
   ·have:=k.gt h1;omega
  ·exact hl
theorem NL.uniq:∀ {l m:List (Int×Int)},NL l→NL m→(∀ n,l.any (qec n)=m.any (qec n))→l=m
 | [],[],_,_,_=>rfl
 | [],y :: m,_,k,e=>by
   have hy:=k.1 y (by simp)
   have:=e y.1
   rw [any_cons.2 (Or.inl ⟨by omega,by omega⟩)] at this
   simp at this
 | x :: l,[],h,_,e=>by
   have hx:=h.1 x (by simp)
   have:=e x.1
   rw [any_cons.2 (Or.inl ⟨by omega,by omega⟩)] at this
   simp at this
 | x :: l,y :: m,h,k,e=>by
   have a:=h.first k (fun n hn=>by rw [←e n];exact hn)
   have b:=k.first h (fun n hn=>by rw [e n];exact hn)
   have e1:x.1=y.1:=by omega
   have e2:x.2=y.2:=by have:=a.2 e1;have:=b.2 e1.symm;omega
   have e3:x=y:=Prod.ext e1 e2
   subst e3
   rw [NL.uniq h.tail k.tail fun n=>?_]
   rw [Bool.eq_iff_iff]
   have e':=e n
   constructor
   ·intro hn
    have g:=h.gt hn
    rcases any_cons.1 (e' ▸ any_cons.2 (Or.inr hn)) with h1 | h1
    ·omega
    ·exact h1
   ·intro hn
    have g:=k.gt hn
    rcases any_cons.1 (e'.symm ▸ any_cons.2 (Or.inr hn)) with h1 | h1
    ·omega
    ·exact h1
theorem NL.chain {d:Array (Int×Int)} (h:∀ k,k < d.size→qgn d k=false):NL d.toList:=by
 have hk:∀ k,k < d.size→1≤d[k]!.1∧d[k]!.1≤d[k]!.2∧d[k]!.2≤1000000∧(0 < k→d[k - 1]!.2 + 1 < d[k]!.1):=by
  intro k hk
  have:=h k hk
  unfold qgn at this
  rw [decide_eq_false_iff_not] at this
  refine ⟨by omega,by omega,by omega,fun h0=>by omega⟩
 refine ⟨fun x hx=>?_,?_⟩
 ·obtain ⟨i,hi,rfl⟩:=List.mem_iff_getElem.1 hx
  have:=hk i (by simpa using hi)
  rw [getElem!_pos d i (by simpa using hi)] at this
  simpa using ⟨this.1,this.2.1,this.2.2.1⟩
 ·rw [List.pairwise_iff_getElem]
  have main:∀ m i,i + m + 1 < d.size→d[i]!.2 + 1 < d[i + m + 1]!.1:=by
   intro m
   induction m with
   | zero=>intro i hi;have:=(hk (i + 1) (by omega)).2.2.2 (by omega);simpa using this
   | succ m ih =>
     intro i hi
     have a:=ih i (by omega)
     have b:=hk (i + m + 1) (by omega)
     have c:=(hk (i + (m + 1) + 1) (by omega)).2.2.2 (by omega)
     have e:i + (m + 1) + 1 - 1=i + m + 1:=by omega
     rw [e] at c
     omega
  intro i j hi hj hij
  have hi':i < d.size:=by simpa using hi
  have hj':j < d.size:=by simpa using hj
  obtain ⟨m,rfl⟩:∃ m,j=i + m + 1:=⟨j - i - 1,by omega⟩
  have:=main m i hj'
  rw [getElem!_pos d i hi',getElem!_pos d _ hj'] at this
  simpa using this
theorem NL.of_set {d:Array (Int×Int)} (h:qaw d=0):NL d.toList:=NL.chain (qel h).2
theorem NL.bad {d:Array (Int×Int)} (h:NL d.toList) (k:Nat) (hk:k < d.size):qgn d k=false:=by
 unfold qgn
 rw [decide_eq_false_iff_not]
 have a:=h.1 d[k]! (by rw [getElem!_pos d k hk];simp)
 have b:0 < k→d[k - 1]!.2 + 1 < d[k]!.1:=fun h0=>by
  have:=List.pairwise_iff_getElem.1 h.2 (k - 1) k (by simp;omega) (by simpa using hk) (by omega)
  rw [getElem!_pos d k hk,getElem!_pos d (k - 1) (by omega)]
  simpa using this
 omega
theorem NL.set {d:Array (Int×Int)} (h:NL d.toList) (hs:d.size≤1000):qaw d=0:=qtk hs h.bad
def IsN (p:Int→Bool) (s:Array (Int×Int)):Prop:=NL s.toList∧∀ n,inR s n=p n
theorem IsN.uniq {p:Int→Bool} {s t:Array (Int×Int)} (h:IsN p s) (k:IsN p t):s=t :=
 Array.toList_inj.1 (NL.uniq h.1 k.1 fun n=>(h.2 n).trans (k.2 n).symm)
def Fit (p:Int→Bool) (was out:Array (Int×Int)):Prop:=∃ s,IsN p s∧out=if s.size≤1000 then s else was
theorem Fit.uniq {p:Int→Bool} {was s t:Array (Int×Int)} (h:Fit p was s) (k:Fit p was t):s=t:=by
 obtain ⟨a,ha,rfl⟩:=h
 obtain ⟨b,hb,rfl⟩:=k
 rw [ha.uniq hb]
theorem Fit.congr {p q:Int→Bool} {was s:Array (Int×Int)} (h:Fit p was s) (e:∀ n,p n=q n):Fit q was s:=by
 obtain ⟨a,ha,rfl⟩:=h
 exact ⟨a,⟨ha.1,fun n=>(ha.2 n).trans (e n)⟩,rfl⟩
theorem addF_list {out:Array (Int×Int)} {x:Int×Int}:(out=#[]∧(addF out x).toList=[x])∨∃ l y,out.toList=l ++ [y]∧(addF out x).toList=if x.1≤y.2 + 1 then l ++ [(y.1,max y.2 x.2)] else l ++ [y,x]:=by
 rcases Nat.eq_zero_or_pos out.size with h0 | h0
 ·left
  obtain rfl:out=#[]:=Array.eq_empty_of_size_eq_zero h0
  exact ⟨rfl,by simp [addF]⟩
 ·right
  have hne:out.toList≠[]:=fun e=>by
   have h1:out.toList.length=0:=by rw [e];rfl
   rw [Array.length_toList] at h1
   omega
  have e0:=(List.dropLast_concat_getLast hne).symm
  generalize out.toList.dropLast=l at e0
  generalize out.toList.getLast hne=y at e0
  refine ⟨l,y,e0,?_⟩
  obtain rfl:out=(l ++ [y]).toArray:=by rw [←e0]
  unfold addF
  have e1:(l ++ [y]).toArray[(l ++ [y]).toArray.size - 1]! = y:=by
   rw [getElem!_pos _ _ (by simp)];simp
  rw [e1]
  by_cases hx:x.1≤y.2 + 1
  ·rw [if_pos ⟨by simp,hx⟩,if_pos hx];simp
  ·rw [if_neg (fun h=>hx h.2),if_neg hx];simp
theorem addF_ok {out:Array (Int×Int)} {x:Int×Int} (h:NL out.toList) (hx:1≤x.1∧x.1≤x.2∧x.2≤1000000) (hl:∀ y ∈ out.toList,y.1≤x.1) :
 NL (addF out x).toList∧(∀ n,inR (addF out x) n=(inR out n || qec n x))∧∀ z,(∀ y ∈ out.toList,y.1≤z)→x.1≤z→∀ y ∈ (addF out x).toList,y.1≤z:=by
 unfold inR
 rcases addF_list (out:=out) (x:=x) with ⟨rfl,e⟩ | ⟨l,y,e0,e⟩
 ·rw [e]
  exact ⟨⟨by simpa using hx,by simp⟩,fun n=>by simp,by simp⟩
 ·rw [e0] at h hl
  rw [e,e0]
  have hp:=List.pairwise_append.1 h.2
  have hy:=h.1 y (by simp)
  have hxy:=hl y (by simp)
  by_cases hc:x.1≤y.2 + 1
  ·rw [if_pos hc]
   refine ⟨⟨?_,?_⟩,?_,?_⟩
   ·intro z hz
    rcases List.mem_append.1 hz with hz | hz
    ·exact h.1 z (by simp [hz])
    ·simp at hz;subst hz;simp only;omega
   ·rw [List.pairwise_append]
    refine ⟨hp.1,by simp,fun a ha b hb=>?_⟩
    simp at hb;subst hb
    exact hp.2.2 a ha y (by simp)
   ·intro n
    rw [List.any_append,List.any_append,Bool.or_assoc]
    congr 1
    simp only [List.any_cons,List.any_nil,Bool.or_false]
    rw [Bool.eq_iff_iff,Bool.or_eq_true,qmd,qmd,qmd]
    simp only
    omega
   ·intro z h1 h2 u hu
    rcases List.mem_append.1 hu with hu | hu
    ·exact h1 u (by simp [hu])
    ·simp at hu;subst hu;exact h1 y (by simp)
  ·rw [if_neg hc]
   refine ⟨⟨?_,?_⟩,?_,?_⟩
   ·intro z hz
    rcases List.mem_append.1 hz with hz | hz
    ·exact h.1 z (by simp [hz])
    ·simp at hz;rcases hz with rfl | rfl
     ·exact hy
     ·exact hx
   ·rw [List.pairwise_append]
    refine ⟨hp.1,by simp;omega,fun a ha b hb=>?_⟩
    have:=hp.2.2 a ha y (by simp)
    simp at hb;rcases hb with rfl | rfl
    ·exact this
    ·omega
   ·intro n
    simp only [List.any_append,List.any_cons,List.any_nil,Bool.or_false,Bool.or_assoc]
   ·intro z h1 h2 u hu
    rcases List.mem_append.1 hu with hu | hu
    ·exact h1 u (by simp [hu])
    ·simp at hu;rcases hu with rfl | rfl
     ·exact h1 _ (by simp)
     ·exact h2
theorem qvx:∀ (l:List (Int×Int)) (out:Array (Int×Int)),NL out.toList→(∀ x ∈ l,1≤x.1∧x.1≤x.2∧x.2≤1000000)→l.Pairwise (fun x y=>x.1≤y.1)→(∀ x ∈ l,∀ y ∈ out.toList,y.1≤x.1) →
 NL (l.foldl addF out).toList∧∀ n,inR (l.foldl addF out) n=(inR out n || l.any (qec n))
 | [],out,h,_,_,_=>⟨h,fun n=>by simp⟩
 | x :: l,out,h,hx,hp,hl=>by
   obtain ⟨a,b,c⟩:=addF_ok h (hx x (by simp)) (hl x (by simp))
   have hp':=List.pairwise_cons.1 hp
   have:=qvx l (addF out x) a (fun z hz=>hx z (by simp [hz])) hp'.2 (fun z hz=>c z.1 (hl z (by simp [hz])) (hp'.1 z hz))
   refine ⟨this.1,fun n=>?_⟩
   rw [List.foldl_cons,this.2 n,b n,List.any_cons,Bool.or_assoc]
def may1 (n:Int):Bool:=decide (1≤n∧n≤1000000)
theorem inR_may {d:Array (Int×Int)} (h:NL d.toList) {n:Int} (hn:inR d n=true):1≤n∧n≤1000000:=by
 obtain ⟨x,hx,h1,h2⟩:=qme.1 hn
 have:=h.1 x hx
 omega
def pAdd (d1 d2:Array (Int×Int)) (n:Int):Bool:=may1 n && (inR d1 n || inR d2 n)
def pLess (d:Array (Int×Int)) (r:Int×Int) (n:Int):Bool:=inR d n && !qec n r
def pGaps (d:Array (Int×Int)) (r:Int×Int) (n:Int):Bool:=may1 n && (qec n r && !inR d n)
theorem Fit.set {p:Int→Bool} {was out:Array (Int×Int)} (h:Fit p was out) (hw:qaw was=0):qaw out=0:=by
 obtain ⟨s,hs,rfl⟩:=h
 split
 ·rename_i h;exact hs.1.set h
 ·exact hw
end Go.Proofs.YtnmojicfmcbgmaaGreatDoor
