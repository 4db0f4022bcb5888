/- Texts that the law leans on. -/
import Derived.Test.YtlkmagmdhopcjaaGreatMTbE
import Derived.Test.YtlkmagmdhopcjaaGreatMTbH
import Derived.Test.YtlkmagmdhopcjaaGreatMOpenN
namespace Go.Proofs.YtlkmagmdhopcjaaGreat
open Go.ChangeShapes Go.WideShapes Go.ChangeAt Go.RowKit Go.Deep Go.Sort
set_option maxRecDepth 100000
def cntO (z:Array EN) (n:Int) (k:Nat):Nat:=((z.toList.take k).filter fun x=>x.id != n).length + 1
structure PutOk (z:Array EN) (e:EN) (m:Array EN):Prop where
 here:FindR m e.id (e,true)
 stay:∀ k,k < z.size→z[k]!.id≠e.id→FindR m z[k]!.id (z[k]!,true)
 cnt:cntO z e.id z.size=m.size
 again:putC m e=0∧putD m e=m
theorem arrmem {m:Array EN} {x:EN} (h:x ∈ m.toList):∃ j,j < m.size∧m[j]! = x:=by
 obtain ⟨j,hj,e⟩:=List.getElem_of_mem h
 have hj':j < m.size:=by simpa using hj
 exact ⟨j,hj',by rw [getElem!_pos m j hj',←e];simp⟩
theorem find_up {m:Array EN} (hup:∀ i j,i < j→j < m.size→m[i]!.id < m[j]!.id) {x:EN} (h:x ∈ m.toList):FindR m x.id (x,true):=by
 obtain ⟨j,hj,rfl⟩:=arrmem h
 exact Or.inl ⟨j,hj,rfl,rfl,fun i hi=>by have:=hup i j hi hj;omega⟩
theorem chkT_pw {d:Array EN} (h:chkT d=true):d.toList.Pairwise (fun x y=>x.id < y.id):=by
 have hu:=qqi h
 rw [List.pairwise_iff_getElem]
 intro i j hi hj hij
 have hi':i < d.size:=by simpa using hi
 have hj':j < d.size:=by simpa using hj
 have:=hu i j hij hj'
 rw [getElem!_pos d i hi',getElem!_pos d j hj'] at this
 simpa using this
theorem chkT_mk {d:Array EN} (h1:d.size≤40) (h2:∀ x ∈ d.toList,qcp x=true) (h3:d.toList.Pairwise (fun x y=>x.id < y.id)):chkT d=true:=by
 refine qct.2 ⟨h1,fun i hi=>?_⟩
 unfold atT
 rw [Bool.and_eq_true,decide_eq_true_eq]
 refine ⟨h2 _ (by rw [getElem!_pos d i hi];simp),fun h0=>?_⟩
 have:=List.pairwise_iff_getElem.1 h3 (i - 1) i (by simp;omega) (by simpa using hi) (by omega)
 rw [getElem!_pos d i hi,getElem!_pos d (i - 1) (by omega)]
 simpa using this
theorem qwn {d:Array EN} (h:chkT d=true):∀ x ∈ d.toList,qcp x=true:=by
 intro x hx
 obtain ⟨j,hj,rfl⟩:=arrmem hx
 have:=(qct.1 h).2 j hj
 unfold atT at this
 rw [Bool.and_eq_true] at this
 exact this.1
theorem put_shape {z:Array EN} {e:EN} (h:z.toList.Pairwise (fun x y=>x.id < y.id)):∃ l1 l2:List EN,(putS z e).toList=l1 ++ e :: l2∧(z.toList=l1 ++ l2∨∃ x,x.id=e.id∧z.toList=l1 ++ x :: l2)∧(∀ x ∈ l1,x.id < e.id)∧∀ x ∈ l2,e.id < x.id:=by
 have key:∀ l:List EN,l.Pairwise (fun x y=>x.id < y.id)→∃ l1 l2:List EN,insL e false l=l1 ++ e :: l2∧(l=l1 ++ l2∨∃ x,x.id=e.id∧l=l1 ++ x :: l2)∧(∀ x ∈ l1,x.id < e.id)∧∀ x ∈ l2,e.id < x.id:=by
  intro l
  induction l with
  | nil=>intro _;exact ⟨[],[],rfl,Or.inl rfl,by simp,by simp⟩
  | cons y r ih =>
    intro hp
    rw [List.pairwise_cons] at hp
    by_cases hy:y.id < e.id
    ·obtain ⟨l1,l2,h1,h2,h3,h4⟩:=ih hp.2
     refine ⟨y :: l1,l2,?_,?_,?_,h4⟩
     ·have:=qhz (e:=e) [y] r (by intro x hx;simp at hx;rw [hx];exact hy)
      rw [List.singleton_append] at this
      rw [this,h1];rfl
     ·rcases h2 with h2 | ⟨x,hx,h2⟩
      ·exact Or.inl (by rw [h2];rfl)
      ·exact Or.inr ⟨x,hx,by rw [h2];rfl⟩
     ·intro x hx
      rw [List.mem_cons] at hx
      rcases hx with rfl | hx
      ·exact hy
      ·exact h3 x hx
    ·have hr:∀ x ∈ r,x.id≠e.id:=fun x hx=>by have:=hp.1 x hx;omega
     have hle:e.id≤y.id:=by omega
     by_cases he:y.id=e.id
     ·refine ⟨[],r,?_,Or.inr ⟨y,he,rfl⟩,by simp,fun x hx=>by have:=hp.1 x hx;omega⟩
      rw [insL,if_pos ⟨hle,rfl⟩,if_pos he,decide_eq_true hle,Bool.false_or,qnh _ hr];rfl
     ·refine ⟨[],y :: r,?_,Or.inl rfl,by simp,?_⟩
      ·rw [insL,if_pos ⟨hle,rfl⟩,if_neg he,decide_eq_true hle,Bool.false_or,qnh _ hr];rfl
      ·intro x hx
       rw [List.mem_cons] at hx
       rcases hx with rfl | hx
       ·omega
       ·have:=hp.1 x hx;omega
 exact key z.toList h
theorem put_ok {z:Array EN} {e:EN} (h:putC z e=0):PutOk z e (putD z e)∧chkT (putD z e)=true:=by
 have hd:putD z e=putS z e:=by unfold putD;rw [if_pos h]
 have hc:(chkT z && qcp e)=true:=by
  unfold putC at h
  split at h
  ·assumption
  ·cases h
 have h40:¬ 40 < (putS z e).size:=by
  unfold putC at h
  rw [if_pos hc] at h
  intro h'
  rw [if_pos h'] at h
  cases h
 rw [Bool.and_eq_true] at hc
 obtain ⟨hz,he⟩:=hc
 have hp:=chkT_pw hz
 obtain ⟨l1,l2,hm,hzl,h1,h2⟩:=put_shape (e:=e) hp
 have hsub:l1.Pairwise (fun x y=>x.id < y.id)∧l2.Pairwise (fun x y=>x.id < y.id):=by
  rcases hzl with hzl | ⟨x,_,hzl⟩
  ·rw [hzl,List.pairwise_append] at hp;exact ⟨hp.1,hp.2.1⟩
  ·rw [hzl,List.pairwise_append,List.pairwise_cons] at hp;exact ⟨hp.1,hp.2.1.2⟩
 have hpm:(putS z e).toList.Pairwise (fun x y=>x.id < y.id):=by
  rw [hm,List.pairwise_append,List.pairwise_cons]
  refine ⟨hsub.1,⟨h2,hsub.2⟩,fun x hx y hy=>?_⟩
  rw [List.mem_cons] at hy
  have:=h1 x hx
  rcases hy with rfl | hy
  ·exact this
  ·have:=h2 y hy;omega
 have hck:chkT (putS z e)=true:=chkT_mk (by omega) (fun x hx=>by
  rcases qwm x hx with h' | h'
  ·exact qwn hz x h'
  ·rw [h'];exact he) hpm
 have hup:=qqi hck
 have hag:putS (putS z e) e=putS z e:=by
  have e1:insL e false (l1 ++ e :: l2)=l1 ++ e :: l2:=by
   rw [qhz l1 _ h1,insL,if_pos ⟨Int.le_refl _,rfl⟩,if_pos rfl,decide_eq_true (Int.le_refl _),Bool.false_or,qnh l2 (fun x hx=>by have:=h2 x hx;omega)];rfl
  apply Array.toList_inj.1
  show insL e false (putS z e).toList=_
  rw [hm,e1]
 have hc2:putC (putS z e) e=0:=by
  unfold putC
  rw [if_pos (by rw [hck,he];rfl),hag,if_neg h40]
 rw [hd]
 refine ⟨⟨find_up hup (by rw [hm];simp),fun k hk hne=>find_up hup ?_,?_,hc2,by unfold putD;rw [if_pos hc2,hag]⟩,hck⟩
 ·have hmem:z[k]! ∈ z.toList:=by rw [getElem!_pos z k hk];simp
  rw [hm]
  rcases hzl with hzl | ⟨x,hx,hzl⟩
  ·rw [hzl,List.mem_append] at hmem
   rw [List.mem_append,List.mem_cons]
   rcases hmem with h' | h'
   ·exact Or.inl h'
   ·exact Or.inr (Or.inr h')
  ·rw [hzl,List.mem_append,List.mem_cons] at hmem
   rw [List.mem_append,List.mem_cons]
   rcases hmem with h' | h' | h'
   ·exact Or.inl h'
   ·rw [h'] at hne;exact absurd hx hne
   ·exact Or.inr (Or.inr h')
 ·have f1:l1.filter (fun x=>x.id != e.id)=l1:=List.filter_eq_self.2 fun x hx=>by have:=h1 x hx;simp;omega
  have f2:l2.filter (fun x=>x.id != e.id)=l2:=List.filter_eq_self.2 fun x hx=>by have:=h2 x hx;simp;omega
  unfold cntO
  rw [List.take_of_length_le (by simp)]
  have hsz:(putS z e).size=l1.length + (l2.length + 1):=by
   rw [←Array.length_toList,hm];simp
  rw [hsz]
  rcases hzl with hzl | ⟨x,hx,hzl⟩
  ·rw [hzl,List.filter_append,f1,f2,List.length_append];omega
  ·rw [hzl,List.filter_append,f1,List.filter_cons,if_neg (by simp [hx]),f2,List.length_append];omega
end Go.Proofs.YtlkmagmdhopcjaaGreat
namespace Go.Proofs.YtlkmagmdhopcjaaGreat
open Go.RowKit Go.Sort Go.Lib
theorem keep_ok {z:Array EN} {n:Int} (h:chkT z=true):chkT (qeq n z)=true:=by
 refine chkT_mk ?_ ?_ ?_
 ·have:=qjx n z;have:=(qct.1 h).1;omega
 ·exact fun x hx=>qwn h x (qjf x hx)
 ·unfold qeq
  exact (chkT_pw h).filter _
end Go.Proofs.YtlkmagmdhopcjaaGreat
