/- Texts that the law leans on. -/
import Derived.Laws.StructEq
import Derived.Lib.Strings
import Derived.Test.YtnmojicfmcbgmaaGreatDoorQErrA
import Derived.Test.YtnmojicfmcbgmaaGreatDoorQOwnK
namespace Go.Proofs.YtnmojicfmcbgmaaGreatDoor
open Go.RowKit Go.Extern.Stop Go.Stop Go.Extern Go.Sort
theorem str_eq_D {a b:ByteArray}:(a.toList == b.toList)=decide (a=b):=by
 by_cases h:a=b
 ·subst h;simp
 ·have:a.toList≠b.toList:=fun e=>h (by
   rw [Lib.toList_data,Lib.toList_data] at e
   exact ByteArray.ext (Array.ext' e))
  simp [h,this]
section
variable {P:Program} (w:World)
end
theorem qxk (p:Addr) (w:World) (hg:Glob w) :
 Calls Tryz.prog 111 #[.iface 124 (.pointer (some p))] w fun e w'=>e=.returned (.pointer (some p))∧Below w.heap.size w w':=by
 have HA:=hI (AsF_any p ⟨w.heap.size,0,none⟩ (.pointer none) (w.alloc (.cells #[.pointer none] 124)) (hg.below (bel1 w _)) (by simp) (by simp))
 clear hg
 go_enter Tryz.func111,Tryz.ntmps111
 go_wp2_with (go_at_call 49;refine HA.out.mono ?_;rintro e w' ⟨rfl,hh⟩;have hcell:=hh.cell;have HG:=hI hh.grown;clear hh)
 go_ret
 exact ⟨rfl,qca (bel1 w _) HG.out (Nat.le_refl _)⟩
theorem qxl (c:Int) (w:World) (hg:Glob w) :
 Calls Tryz.prog 111 #[.iface 48 (.int .i64 c)] w fun e w'=>e=.returned (.pointer none)∧Below w.heap.size w w':=by
 have HA:=hI (AsN_any c ⟨w.heap.size,0,none⟩ (w.alloc (.cells #[.pointer none] 124)) (hg.below (bel1 w _)))
 clear hg
 go_enter Tryz.func111,Tryz.ntmps111
 go_wp2_with (go_at_call 49;refine HA.out.mono ?_;rintro e w' ⟨rfl,hb⟩;have HB:=hI hb;clear hb)
 go_ret
 exact ⟨rfl,qac (bel1 w _) HB.out⟩
def encS (s:ByteArray):List Value:=[.string s]
theorem qus (s:ByteArray):(encS s).length=1:=rfl
end Go.Proofs.YtnmojicfmcbgmaaGreatDoor
namespace Go.Proofs.YtnmojicfmcbgmaaGreatDoor
open Go.RowKit Go.Sort Go.Lib
theorem str_info:(Tryz.prog.info? 9).map (fun i=>(i.zero,i.size,i.bytes))=some (some (.string ⟨#[]⟩),1,16):=by kernel_rfl
def IdxS (d:Array ByteArray) (x:ByteArray) (e:Ending):Prop:=∃ r:Int,e=.returned (.int .i64 r)∧((0≤r∧x ∈ d.toList)∨(r = -1∧¬ x ∈ d.toList))
theorem rdS_at {w:World} {B:Nat} {A:Option Addr} {d:Array ByteArray} (h:RdK encS 1 B w A d) {i:Nat} (hi:i < d.size):∃ b off,A=some ⟨b,off,none⟩∧w.cell? ⟨b,off + i,none⟩=some (.string d[i]!):=by
 obtain ⟨b,off,e,_,f⟩:=h.at_ hi
 have:=f 0 (by omega)
 simp only [Nat.mul_one,Nat.add_zero,encS,List.getElem!_cons_zero] at this
 exact ⟨b,off,e,this⟩
set_option maxRecDepth 100000 in
set_option maxHeartbeats 1000000 in
theorem qxm (A:Option Addr) (c:Nat) (d:Array ByteArray) (x:ByteArray) (w:World) (h:RdK encS 1 w.heap.size w A d) (hs:d.size≤1000000) :
 Calls Tryz.prog 110 #[.slice A d.size c,.string x] w fun e w'=>IdxS d x e∧w=w':=by
 have HR:=hI h
 clear h
 go_enter Tryz.func110,Tryz.ntmps110
 go_wp2
 go_loop [8] (fun i=>∃ k:Nat,i=.int .i64 k∧k≤d.size∧Hid (∀ j,j < k→d[j]!≠x)) (fun i=>d.size - (intOf i).toNat)
 case atStart=>exact ⟨0,rfl,Nat.zero_le _,hI (fun j hj=>absurd hj (by omega))⟩
 case round =>
  obtain ⟨k,rfl,hk,hall⟩:=hrel
  by_cases hlt:k < d.size
  ·have kz:(k:Int) < (d.size:Int):=by omega
   obtain ⟨b,off,rfl,hc⟩:=rdS_at HR.out hlt
   obtain ⟨y,hy⟩:∃ y,d[k]! = y:=⟨_,rfl⟩
   rw [hy] at hc
   have HY:=hI hy
   clear hy
   have hse:=@str_eq_D x y
   by_cases hxy:x=y
   ·rw [show decide (x=y)=true by simp [hxy]] at hse
    have HX:=hI hxy
    clear hxy
    go_wp2
    go_ret
    exact ⟨⟨k,rfl,Or.inl ⟨by omega,by rw [HX.out,←HY.out,getElem!_pos d k hlt];simp⟩⟩,rfl⟩
   ·rw [show decide (x=y)=false by simp [hxy]] at hse
    have HX:=hI hxy
    clear hxy
    go_wp2
    go_round
    case rel =>
     refine ⟨k + 1,by go_num,by omega,hI (fun j hj=>?_)⟩
     rcases Nat.lt_or_ge j k with h | h
     ·exact hall.out j h
     ·obtain rfl:j=k:=by omega
      rw [HY.out];exact fun e=>HX.out e.symm
    case measure=>simp [intOf];omega
  ·have hlt':decide ((k:Int) < (d.size:Int))=false:=by simp;omega
   go_wp2
   go_ret
   refine ⟨⟨-1,rfl,Or.inr ⟨rfl,?_⟩⟩,rfl⟩
   intro hm
   obtain ⟨i,hi,e⟩:=List.getElem_of_mem hm
   have hi':i < d.size:=by simpa using hi
   have:=hall.out i (by omega)
   rw [getElem!_pos d i hi'] at this
   exact this (by simpa using e)
def hasS (l:List ByteArray) (x:ByteArray):Bool:=l.any fun y=>decide (x=y)
theorem qut {l:List ByteArray} {x:ByteArray} (h:x ∈ l):hasS l x=true:=by unfold hasS;rw [List.any_eq_true];exact ⟨x,h,by simp⟩
theorem hasS_no {l:List ByteArray} {x:ByteArray} (h:¬ x ∈ l):hasS l x=false:=by
 unfold hasS
 rw [List.any_eq_false]
 intro y hy e
 have:x=y:=by simpa using e
 exact h (this ▸ hy)
theorem qok (A:Option Addr) (c:Nat) (d:Array ByteArray) (x:ByteArray) (w:World) (h:RdK encS 1 w.heap.size w A d) (hs:d.size≤1000000) :
 Calls Tryz.prog 52 #[.slice A d.size c,.string x] w fun e w'=>e=.returned (.bool (hasS d.toList x))∧w=w':=by
 have HI:=hI (qxm A c d x w h hs)
 clear h
 go_enter Tryz.func52,Tryz.ntmps52
 go_wp2_with fail
 refine HI.out.mono ?_
 rintro e w' ⟨⟨r,rfl,hr⟩,rfl⟩
 have HRR:=hI hr
 clear hr
 go_wp2
 go_ret
 refine ⟨qag ?_,rfl⟩
 rcases HRR.out with ⟨h1,h2⟩ | ⟨h1,h2⟩
 ·rw [qut h2];simp;omega
 ·rw [hasS_no h2];simp;omega
theorem one_newS (w:World) (u:Value) (e:TypeId):∀ (j:Nat) (v:Value),[u][j]?=some v→(w.alloc (.cells #[u] e)).cell? (Addr.add ⟨w.heap.size,0,none⟩ j)=some v:=by
 intro j v hj
 match j,hj with
 | 0,hj=>simp at hj;subst hj;simp [Addr.add]
theorem qmq {w w':World} {base k n:Nat} {e:TypeId} {v:Value} {xs:List Value} (h:w.ownsRow base e k v n xs) (hb:Below w.heap.size w w'):w'.ownsRow base e k v n xs:=by
 obtain ⟨h1,h2⟩:=h
 refine ⟨h1,?_⟩
 rcases h2 with h2 | ⟨g,cap,cur,a1,a2,a3,a4⟩
 ·exact Or.inl h2
 ·have hl:g < w.heap.size:=by
   rcases Nat.lt_or_ge g w.heap.size with h | h
   ·exact h
   ·rw [Array.getElem?_eq_none h] at a3;cases a3
  exact Or.inr ⟨g,cap,cur,a1,a2,(hb.block g hl).trans a3,a4⟩
def OutV (w:World) (l:List ByteArray) (c:Int) (v:Value):Prop:=match l with
 | []=>v=.pointer none
 | op :: l=>∃ b o u,v=.pointer (some ⟨b,o,none⟩)∧w.cell? ⟨b,o,none⟩=some (.string op)∧w.cell? ⟨b,o + 1,none⟩=some u∧Chain w l c u
theorem OutV.below {w w':World} (hb:Below w.heap.size w w') {l:List ByteArray} {c:Int} {v:Value} (h:OutV w l c v):OutV w' l c v:=by
 cases l with
 | nil=>exact h
 | cons op l =>
   obtain ⟨b,o,u,h1,h2,h3,h4⟩:=h
   exact ⟨b,o,u,h1,(hb.cell (p:=⟨b,o,none⟩) (qap h2)).trans h2,(hb.cell (p:=⟨b,o + 1,none⟩) (qap h3)).trans h3,h4.below hb⟩
theorem qqf (l:List ByteArray) (c:Int) (v:Value) (w0 w:World) (hg:Glob w) (h:Chain w0 l c v) :
 Calls Tryz.prog 111 #[v] w fun e w'=>∃ p,e=.returned p∧OutV w0 l c p∧Below w.heap.size w w':=by
 cases l with
 | nil =>
   obtain rfl:v=_:=h
   exact (qxl c w hg).mono fun e w' ⟨he,hb⟩=>⟨_,he,rfl,hb⟩
 | cons op l =>
   obtain ⟨b,o,u,rfl,h2,h3,h4,_⟩:=h
   exact (qxk ⟨b,o,none⟩ w hg).mono fun e w' ⟨he,hb⟩=>⟨_,he,⟨b,o,u,rfl,h2,h3,h4⟩,hb⟩
def TrcP (ops:List ByteArray) (w:World) (e:Ending) (w':World):Prop:=Below w.heap.size w w'∧∃ A cp,e=.returned (.slice A ops.length cp)∧RdK encS 1 w'.heap.size w' A ops.toArray
def TrcR (ops:List ByteArray) (c:Int) (w:World) (k:Nat) (ov fv:Value) (wr:World):Prop:=∃ (a l:List ByteArray),l.length=k∧a ++ l=ops∧wr.ownsRow w.heap.size 9 1 ov a.length (flatK encS 1 a.toArray).toList∧OutV w l c fv∧Below w.heap.size w wr
set_option maxRecDepth 100000 in
set_option maxHeartbeats 1000000 in
theorem Trace_any (ops:List ByteArray) (c:Int) (v:Value) (w:World) (hg:Glob w) (h:Chain w ops c v) (hn:ops.length≤1000) :
 Calls Tryz.prog 53 #[v] w fun e w'=>TrcP ops w e w':=by
 obtain ⟨i0,hi0,hz0,hz1,hz2⟩:=info_parts str_info
 have HO:=hI (qqf ops c v w w hg h)
 have HGl:=hI hg
 clear h hg
 go_enter Tryz.func53,Tryz.ntmps53
 go_wp2_with fail
 refine HO.out.mono ?_
 rintro e w1 ⟨p,rfl,ho,hb1⟩
 have HOV:=hI ho
 have HB1:=hI hb1
 clear ho hb1
 go_wp2
 go_loopg [3,4] ops.length (fun k ov fv wr=>TrcR ops c w k ov fv wr)
 case atStart=>exact ⟨[],ops,rfl,rfl,qda _ _ _ _ _,HOV.out,HB1.out⟩
 case round =>
  obtain ⟨a,l,hl,hal,hown,hov,hB⟩:=hrel
  have HAL:=hI hal
  have HB:=hI hB
  have HL:=hI hl
  have hbs:=hB.size
  clear hal hB hl
  cases l with
  | nil =>
    obtain rfl:_=_:=hov
    have HE:Hid (a=ops):=by
     have:=HAL.out
     exact hI (by simpa using this)
    obtain ⟨A,cp,rfl,hrd,_⟩:=qid (d:=a.toArray) (by simpa using hown)
    have HRD:=hI hrd
    clear hrd hown
    go_wp2
    go_ret
    refine ⟨HB.out,A,cp,?_,by rw [←HE.out];exact HRD.out⟩
    rw [←HE.out];simp
  | cons op l =>
    obtain ⟨b,o,u,rfl,h2w,h3w,h4⟩:=hov
    have h2:=(HB.out.cell (p:=⟨b,o,none⟩) (qap h2w)).trans h2w
    have H3:=hI h3w
    have hl2:=qap h2w
    clear h2w h3w
    have hal:a.length + 1≤1000:=by
     have:=HAL.out
     have e1:(a ++ op :: l).length=ops.length:=by rw [this]
     simp at e1
     omega
    have HCH:=hI h4
    clear h4
    go_wp2_with (at_builtin;refine wpList_append_own _ rfl _ _ 113 rfl w.heap.size 9 i0 (.string ⟨#[]⟩) 1 16 Tryz.underlying113 hi0 hz0 hz1 hz2 rfl (by decide) _ _ _ rfl (hown.alloc _) ⟨wr.heap.size,0,none⟩ 1 1 [.string op] rfl rfl (one_newS wr _ _) (by simp [Value.oneCell']) (by unfold maxLen;omega) (by omega) (by simp;omega) ?_)
    intro v' w4 hown' hgrow _
    have hb4:Below w.heap.size w w4:=(qad HB.out _).grown hgrow (by simp;omega) (fun t htt=>(hown.lt t htt).1)
    have h3:=(hb4.cell (p:=⟨b,o + 1,none⟩) (qap H3.out)).trans H3.out
    have HOU:=hI (qqf l c u w w4 (HGl.out.below hb4) HCH.out)
    have HOW:=hI hown'
    have HB4:=hI hb4
    obtain ⟨g4,cap4,rfl⟩:∃ g cap,v'=.slice (some ⟨g,0,none⟩) (a.length + 1) cap:=by
     rcases hown'.2 with ⟨_,h0⟩ | ⟨g,cap,cur,hv,_⟩
     ·omega
     ·exact ⟨g,cap,hv⟩
    clear hb4 hown' hgrow hown h2
    go_wp2_with (go_at_call 111;refine HOU.out.mono ?_;rintro e w5 ⟨p,rfl,ho,hb5⟩;have HOV5:=hI ho;have HB5:=hI hb5;clear ho hb5)
    go_roundg l.length
    case rel =>
     refine ⟨a ++ [op],l,rfl,by rw [←HAL.out];simp,?_,HOV5.out,qac HB4.out HB5.out⟩
     have h1:=qmq HOW.out HB5.out
     have e1:(flatK encS 1 (a ++ [op]).toArray).toList=(flatK encS 1 a.toArray).toList ++ [.string op]:=by
      have:=qrf (enc:=encS) (k:=1) qus a.toArray #[op]
      have e2:(flatK encS 1 #[op]).toList=[.string op]:=by
       rw [qge qus];rfl
      rw [e2] at this
      rw [←this];simp
     rw [e1,List.length_append]
     exact h1
    case measure=>have:=HL.out;simp at this;omega
theorem At_any (ops:List ByteArray) (c:Int) (v:Value) (x:ByteArray) (w:World) (hg:Glob w) (h:Chain w ops c v) (hn:ops.length≤1000) :
 Calls Tryz.prog 15 #[v,.string x] w fun e w'=>e=.returned (.bool (hasS ops x))∧Below w.heap.size w w':=by
 have HT:=hI (Trace_any ops c v w hg h hn)
 clear h hg
 go_enter Tryz.func15,Tryz.ntmps15
 go_wp2_with fail
 refine HT.out.mono ?_
 rintro e w1 ⟨hb1,A,cp,rfl,hrd⟩
 have e1:ops.length=ops.toArray.size:=by simp
 have HC:=hI (qok A cp ops.toArray x w1 hrd (by simp;omega))
 rw [←e1] at HC
 have HB1:=hI hb1
 clear hb1 hrd e1
 go_wp2_with (go_at_call 52;refine HC.out.mono ?_;rintro e w' ⟨rfl,rfl⟩)
 go_ret
 exact ⟨rfl,HB1.out⟩
end Go.Proofs.YtnmojicfmcbgmaaGreatDoor
