/- Texts that the law leans on. -/
import Derived.Deep.RegionHeld3
import Derived.Deep.DrawnRows
import Derived.Laws.AppendOwnNone
import Derived.Shelf.SlSortCmp.InsertionK
import Derived.Laws.EntriesVeiled
import Derived.Test.YtnmojicfmcbgmaaGreatDoorQRangesL
import Derived.Test.YtnmojicfmcbgmaaGreatDoorQRead
import Derived.Laws.StructEq
namespace Go.Proofs.YtnmojicfmcbgmaaGreatDoor
open Go.RowKit Go.Sort Go.Lib
theorem NL.at_ {d:Array (Int×Int)} (h:NL d.toList) {k:Nat} (hk:k < d.size):1≤d[k]!.1∧d[k]!.1≤d[k]!.2∧d[k]!.2≤1000000:=h.1 _ (by rw [getElem!_pos d k hk];simp)
end Go.Proofs.YtnmojicfmcbgmaaGreatDoor
namespace Go.Proofs.YtnmojicfmcbgmaaGreatDoor
open Go.RowKit Go.Sort Go.Lib
set_option maxHeartbeats 2000000 in
theorem qno (A1 A2:Option Addr) (c1 c2:Nat) (d1 d2:Array (Int×Int)) (B1 B2:Nat) (w:World) (h1:RdK encR 2 B1 w A1 d1) (h2:RdK encR 2 B2 w A2 d2) (hm:d2.size≤100000000) :
 Calls Tryz.prog 151 #[.slice A1 d1.size c1,.slice A2 d2.size c2] w fun e w'=>e=.returned (.bool (decide (d1=d2)))∧∃ n,w'=w.drewN n:=by
 by_cases hs:d1.size=d2.size
 ·have hb:((d1.size:Int) != (d2.size:Int))=false:=by simp [hs]
  have HS:=hI hs
  have hge:d1.size≤d2.size:=by omega
  clear hs
  go_enter Tryz.func151,Tryz.ntmps151
  go_wp2
  go_loopw [5] (fun i wr=>∃ k n:Nat,k≤d1.size∧i=.int .i64 k∧wr=w.drewN n∧∀ j,j < k→d1[j]! = d2[j]!) (fun i _=>d1.size - (intOf i).toNat)
  case atStart=>exact ⟨0,0,Nat.zero_le _,rfl,rfl,fun j hj=>absurd hj (by omega)⟩
  case round =>
   obtain ⟨k,n,hk,rfl,rfl,hj⟩:=hrel
   have HJ:=hI hj;clear hj
   by_cases hlt:k < d1.size
   ·obtain ⟨b1,o1,rfl,_,f⟩:=h1.at_ hlt
    obtain ⟨b2,o2,rfl,_,g⟩:=h2.at_ (i:=k) (by omega)
    have f0:=f 0 (by omega)
    have f1:=f 1 (by omega)
    have g0:=g 0 (by omega)
    have g1:=g 1 (by omega)
    clear f g
    have HX:Hid (k < d1.size):=hlt
    generalize hx:d1[k]! = x at f0 f1
    generalize hy:d2[k]! = y at g0 g1
    have HXX:=hI hx;clear hx
    have HYY:=hI hy;clear hy
    simp only [Nat.add_zero,encR,List.getElem!_cons_zero,List.getElem!_cons_succ] at f0 f1 g0 g1
    have kz:(k:Int) < (d1.size:Int):=by omega
    have kz2:(k:Int) < (d2.size:Int):=by omega
    by_cases hxy:x=y
    ·subst hxy
     go_wp2
     go_quiet (fail)
     go_wp2
     go_roundw
     case rel=>exact ⟨k + 1,_,by omega,by go_num,rfl,fun j hj=>by
      rcases Nat.lt_or_ge j k with h | h
      ·exact HJ.out j h
      ·obtain rfl:j=k:=by omega
       rw [HXX.out,HYY.out]⟩
     case measure=>simp [intOf];omega
    ·have HXY:=hI hxy
     by_cases he:x.1=y.1
     ·have hd1:(x.1 == y.1)=true:=by simp [he]
      have hd:(x.2 == y.2)=false:=by simp;intro h;exact hxy (Prod.ext he h)
      clear hxy he
      go_wp2
      go_quiet (fail)
      go_wp2
      go_ret
      exact ⟨qag (by symm;rw [decide_eq_false_iff_not];rintro rfl;exact HXY.out (by rw [←HXX.out,←HYY.out])),_,World.drewN_drewN _ _ _⟩
     ·have hd:(x.1 == y.1)=false:=by simp [he]
      clear hxy he
      go_wp2
      go_quiet (fail)
      go_wp2
      go_ret
      exact ⟨qag (by symm;rw [decide_eq_false_iff_not];rintro rfl;exact HXY.out (by rw [←HXX.out,←HYY.out])),_,World.drewN_drewN _ _ _⟩
   ·go_wp2
    go_ret
    exact ⟨qag (by symm;rw [decide_eq_true_iff];exact qro HS.out fun j hj=>HJ.out j (by omega)),n,rfl⟩
 ·have hb:((d1.size:Int) != (d2.size:Int))=true:=by simp;omega
  have HS:=hI hs;clear hs
  go_enter Tryz.func151,Tryz.ntmps151
  go_wp2
  go_ret
  exact ⟨qag (by symm;rw [decide_eq_false_iff_not];rintro rfl;exact HS.out rfl),0,rfl⟩
theorem flat_lit (l:List (Int×Int)):(l.flatMap encR).toArray=flatK encR 2 l.toArray:=by
 apply Array.ext'
 rw [qge encR_len]
def RdV (w:World) (v:Value) (out:Array (Int×Int)):Prop:=∃ A c,v=.slice A out.size c∧RdK encR 2 w.heap.size w A out∧(A=none→c=0)
theorem RdV.below {w w':World} {v:Value} {out:Array (Int×Int)} (h:RdV w v out) (hb:Below w.heap.size w w'):RdV w' v out:=by
 obtain ⟨A,c,rfl,hr,hn⟩:=h
 exact ⟨A,c,rfl,(hr.below hb).mono hb.size,hn⟩
theorem RdV.own {w:World} {base:Nat} {e:TypeId} {v:Value} {out:Array (Int×Int)} (h:w.ownsRow base e 2 v out.size (flatK encR 2 out).toList):RdV w v out:=qid h
def AddE (d1 d2 out:Array (Int×Int)):Prop:=(qaw d1=0→Fit (pAdd d1 d2) d1 out)∧(qaw d1≠0→out=#[])
def LessE (d:Array (Int×Int)) (r:Int×Int) (out:Array (Int×Int)):Prop:=(qaw d=0→Fit (pLess d r) d out)∧(qaw d≠0→out=#[])
def GapsE (d:Array (Int×Int)) (r:Int×Int) (out:Array (Int×Int)):Prop:=(qaw d=0→Fit (pGaps d r) #[] out)∧(qaw d≠0→out=#[])
theorem AddE.uniq {d1 d2 a b:Array (Int×Int)} (h:AddE d1 d2 a) (k:AddE d1 d2 b):a=b:=by
 by_cases hs:qaw d1=0
 ·exact (h.1 hs).uniq (k.1 hs)
 ·rw [h.2 hs,k.2 hs]
theorem LessE.uniq {d a b:Array (Int×Int)} {r:Int×Int} (h:LessE d r a) (k:LessE d r b):a=b:=by
 by_cases hs:qaw d=0
 ·exact (h.1 hs).uniq (k.1 hs)
 ·rw [h.2 hs,k.2 hs]
theorem GapsE.uniq {d a b:Array (Int×Int)} {r:Int×Int} (h:GapsE d r a) (k:GapsE d r b):a=b:=by
 by_cases hs:qaw d=0
 ·exact (h.1 hs).uniq (k.1 hs)
 ·rw [h.2 hs,k.2 hs]
theorem Fit.size {p:Int→Bool} {was out:Array (Int×Int)} (h:Fit p was out) (hw:was.size≤1000):out.size≤1000:=by
 obtain ⟨s,_,rfl⟩:=h
 split
 ·assumption
 ·exact hw
theorem AddE.size {d1 d2 out:Array (Int×Int)} (h:AddE d1 d2 out):out.size≤1000:=by
 by_cases hs:qaw d1=0
 ·exact (h.1 hs).size (qel hs).1
 ·rw [h.2 hs];simp
theorem LessE.size {d out:Array (Int×Int)} {r:Int×Int} (h:LessE d r out):out.size≤1000:=by
 by_cases hs:qaw d=0
 ·exact (h.1 hs).size (qel hs).1
 ·rw [h.2 hs];simp
theorem GapsE.size {d out:Array (Int×Int)} {r:Int×Int} (h:GapsE d r out):out.size≤1000:=by
 by_cases hs:qaw d=0
 ·exact (h.1 hs).size (by simp)
 ·rw [h.2 hs];simp
end Go.Proofs.YtnmojicfmcbgmaaGreatDoor
namespace Go.Proofs.YtnmojicfmcbgmaaGreatDoor
open Go.RowKit Go.Sort Go.Lib
def sameR (a b:Array (Int×Int)):Bool:=decide (a=b)
theorem r4Same_b (A1 A2:Option Addr) (c1 c2:Nat) (d1 d2:Array (Int×Int)) (w:World) (h1:RdK encR 2 w.heap.size w A1 d1) (h2:RdK encR 2 w.heap.size w A2 d2) (hm:d2.size≤100000000) :
 Calls Tryz.prog 151 #[.slice A1 d1.size c1,.slice A2 d2.size c2] w fun e w'=>e=.returned (.bool (sameR d1 d2))∧Below w.heap.size w w' :=
 (qno A1 A2 c1 c2 d1 d2 _ _ w h1 h2 hm).mono fun _ _ ⟨he,n,hw⟩=>⟨he,by rw [hw];exact qax (Below.refl _ _) n⟩
theorem NL.lit {d:Array (Int×Int)} (h:qaw d=0):NL d.toList:=NL.of_set h
theorem RdK.lit (w:World) (l:List (Int×Int)) (cs:Array Value) (h:cs=(l.flatMap encR).toArray) (e:TypeId):RdK encR 2 (w.alloc (.cells cs e)).heap.size (w.alloc (.cells cs e)) (some ⟨w.heap.size,0,none⟩) l.toArray :=
 (RdK.new w encR 2 l.toArray e cs (h.trans (flat_lit l))).mono (by simp)
theorem RdK.up {B:Nat} {w w':World} {A:Option Addr} {d:Array (Int×Int)} (h:RdK encR 2 w.heap.size w A d) (hb:Below w.heap.size w w') (_:B=B):RdK encR 2 w'.heap.size w' A d:=(h.below hb).mono hb.size
end Go.Proofs.YtnmojicfmcbgmaaGreatDoor
namespace Go.Proofs.YtnmojicfmcbgmaaGreatDoor
open Go.RowKit Go.Sort Go.Lib
theorem IsN.congr {p q:Int→Bool} {s:Array (Int×Int)} (h:IsN p s) (e:∀ n,p n=q n):IsN q s:=⟨h.1,fun n=>(h.2 n).trans (e n)⟩
theorem IsN.set {p:Int→Bool} {s:Array (Int×Int)} (h:IsN p s) (hs:s.size≤1000):qaw s=0:=h.1.set hs
theorem IsN.has {p:Int→Bool} {s:Array (Int×Int)} (h:IsN p s) (hs:s.size≤1000) (n:Int):qcf s n=p n:=by
 unfold qcf;rw [h.set hs,h.2 n];simp
theorem pre_has {d:Array (Int×Int)} (hs:qaw d=0) (b:Int):b≤preE d b∧(preE d b≤b∨preE d b≤1000000)∧(∀ n,b < n→n≤preE d b→inR d n=true)∧inR d (preE d b + 1)=false:=by
 have hd:=NL.of_set hs
 unfold preE
 rw [if_pos hs]
 cases hf:d.toList.find? (preB b) with
 | none =>
   refine ⟨Int.le_refl _,Or.inl (Int.le_refl _),fun n h1 h2=>?_,?_⟩
   ·simp at h2;omega
   ·rw [Bool.eq_false_iff]
    intro hn
    obtain ⟨x,hx,h1,h2⟩:=qme.1 hn
    have:=List.find?_eq_none.1 hf x hx
    unfold preB at this
    simp at this h1 h2
    omega
 | some x =>
   have hx:=List.mem_of_find?_eq_some hf
   have hp:=List.find?_some hf
   unfold preB at hp
   simp only [decide_eq_true_eq] at hp
   have o:=hd.1 x hx
   simp only [Option.map_some,Option.getD_some]
   refine ⟨by omega,Or.inr o.2.2,fun n h1 h2=>qme.2 ⟨x,hx,by omega,h2⟩,?_⟩
   rw [Bool.eq_false_iff]
   intro hn
   obtain ⟨y,hy,h1,h2⟩:=qme.1 hn
   obtain ⟨i,hi,rfl⟩:=List.mem_iff_getElem.1 hx
   obtain ⟨j,hj,rfl⟩:=List.mem_iff_getElem.1 hy
   have hpw:=List.pairwise_iff_getElem.1 hd.2
   rcases Nat.lt_trichotomy i j with h | rfl | h
   ·have:=hpw i j hi hj h;omega
   ·omega
   ·have:=hpw j i hj hi h;omega
end Go.Proofs.YtnmojicfmcbgmaaGreatDoor
