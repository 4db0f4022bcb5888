/- Texts that the law leans on. -/
import Derived.Deep.RegionHeld3
import Derived.Deep.DrawnRows
import Derived.Test.YtnmojicfmcbgmaaGreatDoorQSortJ
namespace Go.Proofs.YtnmojicfmcbgmaaGreatDoor
open Go.RowKit Go.Sort Go.Lib
set_option maxRecDepth 100000
structure InsP (d:Array (Int×Int)) (m:Nat) (o:Array (Int×Int)):Prop where
 perm:o.toList.Perm (d.toList.take m)
 sorted:o.toList.Pairwise fun x y=>qee y x=false
theorem InsP.nil (d:Array (Int×Int)):InsP d 0 #[]:=⟨by simp,by simp⟩
theorem InsP.size {d o:Array (Int×Int)} {m:Nat} (h:InsP d m o) (hm:m≤d.size):o.size=m:=by
 have:=h.perm.length_eq
 simp at this
 omega
theorem lessA_as {x y:Int×Int} (h:qee x y=true):qee y x=false:=by
 unfold qee at *;simp at *;omega
theorem InsP.put {d o:Array (Int×Int)} {m k:Nat} (h:InsP d m o) (hm:m < d.size) (hk:k≤m) (h1:∀ j,j < k→qee d[m]! o[j]! = false) (h2:k < m→qee d[m]! o[k]! = true) :
 InsP d (m + 1) (#[] ++ (o.toList.take k).toArray ++ #[d[m]!] ++ (o.toList.drop k).toArray):=by
 have hs:=h.size (by omega)
 have e:(#[] ++ (o.toList.take k).toArray ++ #[d[m]!] ++ (o.toList.drop k).toArray).toList=o.toList.take k ++ d[m]! :: o.toList.drop k:=by simp
 constructor
 ·rw [e]
  refine List.perm_middle.trans ?_
  rw [List.take_append_drop]
  have:d.toList.take (m + 1)=d.toList.take m ++ [d[m]!]:=by
   rw [List.take_add_one]
   simp [hm]
  rw [this]
  exact (List.Perm.cons _ h.perm).trans (List.perm_append_singleton _ _).symm
 ·rw [e]
  have hp:=h.sorted
  rw [←List.take_append_drop k o.toList] at hp
  obtain ⟨p1,p2,p3⟩:=List.pairwise_append.1 hp
  have t1:∀ y ∈ o.toList.take k,qee d[m]! y=false:=fun y hy=>by
   obtain ⟨j,hj,rfl⟩:=List.mem_take_iff_getElem.1 hy
   have hj':j < o.size:=by simp at hj;omega
   have:=h1 j (by simp at hj;omega)
   rw [getElem!_pos o j hj'] at this
   simpa using this
  have t2:∀ y ∈ o.toList.drop k,qee y d[m]! = false:=fun y hy=>by
   rcases Nat.lt_or_ge k m with hlt | hge
   ·have hk':k < o.toList.length:=by simp;omega
    rw [List.drop_eq_getElem_cons hk'] at hy p2
    have hk2:=h2 hlt
    rw [getElem!_pos o k (by omega)] at hk2
    rcases List.mem_cons.1 hy with rfl | hy
    ·exact lessA_as (by simpa using hk2)
    ·have a1:=(List.pairwise_cons.1 p2).1 y hy
     have a2:qee d[m]! o[k]=true:=hk2
     have a3:qee y o.toList[k]=false:=a1
     simp only [Array.getElem_toList] at a3
     unfold qee at *
     simp at *
     omega
   ·rw [List.drop_of_length_le (by simp;omega)] at hy
    cases hy
  refine List.pairwise_append.2 ⟨p1,List.pairwise_cons.2 ⟨t2,p2⟩,fun y hy z hz=>?_⟩
  rcases List.mem_cons.1 hz with rfl | hz
  ·exact t1 y hy
  ·exact p3 y hy z hz
theorem InsP.fin {d o:Array (Int×Int)} (h:InsP d d.size o):o=srtA d:=by
 have hs:=h.size (Nat.le_refl _)
 refine srtA_of ⟨hs,fun i hi=>?_,?_⟩ ?_
 ·have h1:d.size≤i:=by omega
  simp [h1,hs]
 ·have e1:o.extract 0 d.size=o:=by rw [←hs];simp
  have e2:d.extract 0 d.size=d:=by simp
  rw [e1,e2]
  have:=h.perm
  rwa [List.take_of_length_le (by simp)] at this
 ·intro i j _ hij hj
  have:=List.pairwise_iff_getElem.1 h.sorted i j (by simp;omega) (by simp;omega) hij
  rw [getElem!_pos o j (by omega),getElem!_pos o i (by omega)]
  simpa using this
section
variable {α:Type} [Inhabited α] {enc:α→List Value} {k:Nat}
end
end Go.Proofs.YtnmojicfmcbgmaaGreatDoor
