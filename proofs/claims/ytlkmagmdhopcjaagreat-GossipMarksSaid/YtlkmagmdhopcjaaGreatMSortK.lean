/- Texts that the law leans on. -/
import Derived.Deep.RegionHeld3
import Derived.Deep.DrawnRows
import Derived.Test.YtlkmagmdhopcjaaGreatMSortJ
namespace Go.Proofs.YtlkmagmdhopcjaaGreat
open Go.RowKit Go.Sort Go.Lib
set_option maxRecDepth 100000
structure InsP (d:Array (Int×Int)) (m:Nat) (o:Array (Int×Int)):Prop where
 perm:o.toList.Perm (d.toList.take m)
 sorted:o.toList.Pairwise fun x y=>qae y x=false
theorem InsP.nil (d:Array (Int×Int)):InsP d 0 #[]:=⟨by simp,by simp⟩
theorem InsP.size {d o:Array (Int×Int)} {m:Nat} (h:InsP d m o) (hm:m≤d.size):o.size=m:=by
 have:=h.perm.length_eq
 simp at this
 omega
theorem lessA_as {x y:Int×Int} (h:qae x y=true):qae y x=false:=by
 unfold qae at *;simp at *;omega
theorem InsP.put {d o:Array (Int×Int)} {m k:Nat} (h:InsP d m o) (hm:m < d.size) (hk:k≤m) (h1:∀ j,j < k→qae d[m]! o[j]! = false) (h2:k < m→qae d[m]! o[k]! = true) :
 InsP d (m + 1) (#[] ++ (o.toList.take k).toArray ++ #[d[m]!] ++ (o.toList.drop k).toArray):=by
 have hs:=h.size (by omega)
 have e:(#[] ++ (o.toList.take k).toArray ++ #[d[m]!] ++ (o.toList.drop k).toArray).toList=o.toList.take k ++ d[m]! :: o.toList.drop k:=by simp
 constructor
 ·rw [e]
  refine List.perm_middle.trans ?_
  rw [List.take_append_drop]
  have:d.toList.take (m + 1)=d.toList.take m ++ [d[m]!]:=by
   rw [List.take_add_one]
   simp [hm]
  rw [this]
  exact (List.Perm.cons _ h.perm).trans (List.perm_append_singleton _ _).symm
 ·rw [e]
  have hp:=h.sorted
  rw [←List.take_append_drop k o.toList] at hp
  obtain ⟨p1,p2,p3⟩:=List.pairwise_append.1 hp
  have t1:∀ y ∈ o.toList.take k,qae d[m]! y=false:=fun y hy=>by
   obtain ⟨j,hj,rfl⟩:=List.mem_take_iff_getElem.1 hy
   have hj':j < o.size:=by simp at hj;omega
   have:=h1 j (by simp at hj;omega)
   rw [getElem!_pos o j hj'] at this
   simpa using this
  have t2:∀ y ∈ o.toList.drop k,qae y d[m]! = false:=fun y hy=>by
   rcases Nat.lt_or_ge k m with hlt | hge
   ·have hk':k < o.toList.length:=by simp;omega
    rw [List.drop_eq_getElem_cons hk'] at hy p2
    have hk2:=h2 hlt
    rw [getElem!_pos o k (by omega)] at hk2
    rcases List.mem_cons.1 hy with rfl | hy
    ·exact lessA_as (by simpa using hk2)
    ·have a1:=(List.pairwise_cons.1 p2).1 y hy
     have a2:qae d[m]! o[k]=true:=hk2
     have a3:qae y o.toList[k]=false:=a1
     simp only [Array.getElem_toList] at a3
     unfold qae at *
     simp at *
     omega
   ·rw [List.drop_of_length_le (by simp;omega)] at hy
    cases hy
  refine List.pairwise_append.2 ⟨p1,List.pairwise_cons.2 ⟨t2,p2⟩,fun y hy z hz=>?_⟩
  rcases List.mem_cons.1 hz with rfl | hz
  ·exact t1 y hy
  ·exact p3 y hy z hz
section
variable {α:Type} [Inhabited α] {enc:α→List Value} {k:Nat}
end
end Go.Proofs.YtlkmagmdhopcjaaGreat
