/- Texts that the law leans on. -/
import Derived.Laws.StructEq
import Derived.Test.YtnmojicfmcbgmaaGreatDoorQKnP
import Derived.Test.YtnmojicfmcbgmaaGreatDoorQSrtK
import Derived.Deep.RegionHeld3
namespace Go.Proofs.YtnmojicfmcbgmaaGreatDoor
open Go.RowKit Go.Sort Go.Lib
set_option maxRecDepth 100000
def qqt (k j:KN):Bool:=(k.base == j.base) && decide (k.rs=j.rs) && decide (k.ats=j.ats)
theorem qqu {k j:KN}:qqt k j=true↔k=j:=by
 obtain ⟨a,b,c⟩:=k
 obtain ⟨d,e,f⟩:=j
 unfold qqt
 simp [and_assoc]
end Go.Proofs.YtnmojicfmcbgmaaGreatDoor
namespace Go.Proofs.YtnmojicfmcbgmaaGreatDoor
open Go.RowKit Go.Sort Go.Lib
set_option maxRecDepth 100000
theorem two_blk (w:World) (o o':Obj):((w.alloc o).alloc o').heap[w.heap.size]?=some o∧((w.alloc o).alloc o').heap[w.heap.size + 1]?=some o' :=
 ⟨qes (heap_alloc_new w o),by rw [show w.heap.size + 1=(w.alloc o).heap.size by simp];exact heap_alloc_new _ _⟩
theorem blk3 {W:World} {g:Nat} {a b c:Value} {T:TypeId} (h:W.heap[g]?=some (.cells #[a,b,c] T (0,0))):(W.cell? ⟨g,0,none⟩=some a∧W.cell? ⟨g,1,none⟩=some b∧W.cell? ⟨g,2,none⟩=some c)∧∀ i,W.frozen? ⟨g,i,none⟩=false:=by
 refine ⟨⟨?_,?_,?_⟩,fun i=>by simp [World.frozen?,h]⟩
 ·rw [cell_of_row W _ 0 _ _ (0,0) h];rfl
 ·rw [cell_of_row W _ 1 _ _ (0,0) h];rfl
 ·rw [cell_of_row W _ 2 _ _ (0,0) h];rfl
theorem blk_lt {W:World} {g:Nat} {o:Obj} (h:W.heap[g]?=some o):g < W.heap.size:=by
 rcases Nat.lt_or_ge g W.heap.size with h' | h'
 ·exact h'
 ·rw [Array.getElem?_eq_none h'] at h;cases h
theorem blk_bel {W W':World} {g:Nat} {o:Obj} (h:W.heap[g]?=some o) (hb:Below W.heap.size W W'):W'.heap[g]?=some o:=(hb.block g (blk_lt h)).trans h
end Go.Proofs.YtnmojicfmcbgmaaGreatDoor
namespace Go.Proofs.YtnmojicfmcbgmaaGreatDoor
open Go.RowKit Go.Sort Go.Lib
set_option maxRecDepth 100000
theorem RdK.far {α:Type} [Inhabited α] {enc:α→List Value} {k B:Nat} {w:World} {A:Option Addr} {d:Array α} (h:RdK enc k B w A d) (p:Addr) (v:Value) (hp:∀ g off,A=some ⟨g,off,none⟩→g≠p.block):RdK enc k B (w.setCell p v) A d:=fun h0=>by
 obtain ⟨b,off,e,hlt,hc⟩:=h h0
 exact ⟨b,off,e,hlt,fun t ht=>(World.cell?_setCell_far w p ⟨b,off + t,none⟩ v (Ne.symm (hp b off e))).trans (hc t ht)⟩
end Go.Proofs.YtnmojicfmcbgmaaGreatDoor
namespace Go.Proofs.YtnmojicfmcbgmaaGreatDoor
open Go.RowKit Go.Sort Go.Lib
set_option maxRecDepth 100000
theorem RdI_R.next {w w':World} {A:Option Addr} {d:Array Int} (h:RdI_R w.heap.size w A d) (hb:Below w.heap.size w w'):RdI_R w'.heap.size w' A d:=(h.below hb).mono hb.size
end Go.Proofs.YtnmojicfmcbgmaaGreatDoor
namespace Go.Proofs.YtnmojicfmcbgmaaGreatDoor
open Go.RowKit Go.Sort Go.Lib
set_option maxRecDepth 100000
structure OpenR (k:KN) (s:Array Int):Prop where
 up:s.toList.Pairwise (· < ·)
 mem:∀ x,x ∈ s.toList↔chkB k=true∧x ∈ k.ats.toList.map (·.2)
theorem up_ext:∀ {a b:List Int},a.Pairwise (· < ·)→b.Pairwise (· < ·)→(∀ x,x ∈ a↔x ∈ b)→a=b
 | [],[],_,_,_=>rfl
 | [],y :: b,_,_,h=>absurd ((h y).2 (by simp)) (by simp)
 | x :: a,[],_,_,h=>absurd ((h x).1 (by simp)) (by simp)
 | x :: a,y :: b,h1,h2,h=>by
   obtain ⟨p1,p2⟩:=List.pairwise_cons.1 h1
   obtain ⟨q1,q2⟩:=List.pairwise_cons.1 h2
   have hxy:x=y:=by
    rcases List.mem_cons.1 ((h x).1 (by simp)) with e | hx
    ·exact e
    ·rcases List.mem_cons.1 ((h y).2 (by simp)) with e | hy
     ·exact e.symm
     ·have:=q1 x hx;have:=p1 y hy;omega
   subst hxy
   rw [up_ext p2 q2 (fun z=>⟨fun hz=>?_,fun hz=>?_⟩)]
   ·rcases List.mem_cons.1 ((h z).1 (by simp [hz])) with e | hz'
    ·have:=p1 z hz;omega
    ·exact hz'
   ·rcases List.mem_cons.1 ((h z).2 (by simp [hz])) with e | hz'
    ·have:=q1 z hz;omega
    ·exact hz'
theorem OpenR.uniq {k:KN} {s t:Array Int} (h:OpenR k s) (g:OpenR k t):s=t :=
 Array.toList_inj.1 (up_ext h.up g.up (fun x=>(h.mem x).trans (g.mem x).symm))
end Go.Proofs.YtnmojicfmcbgmaaGreatDoor
namespace Go.Proofs.YtnmojicfmcbgmaaGreatDoor
open Go.RowKit Go.Sort Go.Lib
set_option maxRecDepth 100000
set_option maxHeartbeats 4000000 in
theorem qsw (v1 v2:Value) (k j:KN) (w:World) (h1:KnV w v1 k) (h2:KnV w v2 j) (s1:k.rs.size≤100000) (s2:k.ats.size≤100000) (s3:j.rs.size≤100000) (s4:j.ats.size≤100000) :
 Calls Tryz.prog 150 #[v1,v2] w fun e w'=>e=.returned (.bool (qqt k j))∧Below w.heap.size w w':=by
 obtain ⟨b1,r1,a1⟩:=k
 obtain ⟨b2,r2,a2⟩:=j
 obtain ⟨A1,c1,A2,c2,rfl,p1,p2,_,_⟩:=h1
 obtain ⟨A3,c3,A4,c4,rfl,p3,p4,_,_⟩:=h2
 have HR:Hid (∀ W,Below w.heap.size w W→Calls Tryz.prog 151 #[.slice A1 r1.size c1,.slice A3 r2.size c3] W fun e w'=>e=.returned (.bool (decide (r1=r2)))∧Below W.heap.size W w'):=fun W hb=>r4Same_b A1 A3 c1 c3 r1 r2 W ((p1.below hb).mono hb.size) ((p3.below hb).mono hb.size) (by simp only at s3;omega)
 have HA:Hid (∀ W,Below w.heap.size w W→Calls Tryz.prog 103 #[.slice A2 a1.size c2,.slice A4 a2.size c4] W fun e w'=>e=.returned (.bool (decide (a1=a2)))∧Below W.heap.size W w'):=fun W hb=>(qhu A2 A4 c2 c4 a1 a2 w.heap.size W (p2.below hb) (p4.below hb) (by simp only at s2;omega) (by simp only at s4;omega)).mono fun _ _ ⟨he,n,hw⟩=>⟨he,by rw [hw];exact qax (Below.refl _ _) n⟩
 have HT:=hI (two_blk w (.cells #[.int .i64 b1,.slice A1 r1.size c1,.slice A2 a1.size c2] 81) (.cells #[.int .i64 b2,.slice A3 r2.size c3,.slice A4 a2.size c4] 81))
 have HS:Hid (qqt ⟨b1,r1,a1⟩ ⟨b2,r2,a2⟩=((b1 == b2) && decide (r1=r2) && decide (a1=a2))):=hI rfl
 clear p1 p2 p3 p4 s1 s2 s3 s4
 generalize decide (r1=r2)=er at HR HS
 generalize decide (a1=a2)=ea at HA HS
 generalize qqt ⟨b1,r1,a1⟩ ⟨b2,r2,a2⟩=sk at HS
 cases hb:(b1 == b2)
 ·rw [hb] at HS
  have HF:Hid (sk=false):=HS.out
  clear HS HR HA
  go_enter Tryz.func150,Tryz.ntmps150
  go_wp2
  go_ret
  exact ⟨qag HF.out.symm,qad (bel1 w _) _⟩
 ·rw [hb,Bool.true_and] at HS
  cases er
  ·have HF:Hid (sk=false):=HS.out
   clear HS HA
   go_enter Tryz.func150,Tryz.ntmps150
   go_wp2_with fail
   refine (HR.out _ (qad (bel1 w _) _)).mono ?_
   rintro e w1 ⟨rfl,hb1⟩
   have HB1:=hI (qac (qad (bel1 w _) _) hb1)
   clear hb1
   go_wp2
   go_ret
   exact ⟨qag HF.out.symm,HB1.out⟩
  ·have HF:Hid (sk=ea):=HS.out
   clear HS
   go_enter Tryz.func150,Tryz.ntmps150
   go_wp2_with fail
   refine (HR.out _ (qad (bel1 w _) _)).mono ?_
   rintro e w1 ⟨rfl,hb1⟩
   obtain ⟨⟨u0,u1,u2⟩,_⟩:=blk3 (blk_bel HT.out.1 hb1)
   obtain ⟨⟨k0,k1,k2⟩,_⟩:=blk3 (blk_bel HT.out.2 hb1)
   have HB1:=hI (qac (qad (bel1 w _) _) hb1)
   have HAA:=hI (HA.out w1 HB1.out)
   clear hb1 HA HR
   go_wp2_with fail
   refine HAA.out.mono ?_
   rintro e w2 ⟨rfl,hb2⟩
   go_wp2
   go_ret
   exact ⟨qag HF.out.symm,qac HB1.out hb2⟩
end Go.Proofs.YtnmojicfmcbgmaaGreatDoor
namespace Go.Proofs.YtnmojicfmcbgmaaGreatDoor
open Go.RowKit Go.Sort Go.Lib
set_option maxRecDepth 100000
set_option maxHeartbeats 32000000 in
theorem qye (base:Int) (rs ats:Array (Int×Int)) (A1:Option Addr) (c1:Nat) (A2:Option Addr) (c2:Nat) (w:World) (h1:RdK encR 2 w.heap.size w A1 rs) (h2:RdK qbe 2 w.heap.size w A2 ats) :
 Calls Tryz.prog 128 #[.agg #[.int .i64 base,.slice A1 rs.size c1,.slice A2 ats.size c2]] w fun e w'=>e=.returned (.int .i64 (chkE ⟨base,rs,ats⟩))∧Below w.heap.size w w':=by
 have HC:Hid (∀ W,Below w.heap.size w W→Calls Tryz.prog 129 #[.slice A1 rs.size c1] W fun e w'=>e=.returned (.int .i64 (qaw rs))∧Below W.heap.size W w'):=fun W hb=>(qgg A1 c1 rs _ W ((h1.below hb).mono hb.size)).mono fun _ _ ⟨he,q,hw⟩=>⟨he,by rw [hw];exact qax (Below.refl _ _) q⟩
 have HRi:Hid (ats.size≤400→∀ W,Below w.heap.size w W→Calls Tryz.prog 175 #[.slice A2 ats.size c2,.int .i64 base,.int .i64 1000000] W fun e w'=>e=.returned (.bool (qch 1000000 base ats.toList))∧Below W.heap.size W w'):=fun hs W hb=>rRise_any A2 c2 ats base 1000000 W ((h2.below hb).mono hb.size) (by omega)
 have HR1:=hI h1
 have HR2:=hI h2
 have hrw:∀ b:Bool,chkB ⟨base,rs,ats⟩=b→chkE ⟨base,rs,ats⟩=if b=true then 0 else 2:=fun b hb=>by unfold chkE;rw [hb]
 clear h1 h2
 by_cases g1:base < 0∨1000000 < base∨qaw rs≠0∨400 < ats.size∨qch 1000000 base ats.toList=false
 ·have HE:Hid (chkE ⟨base,rs,ats⟩=2):=by
   show _=_
   rw [hrw false]
   ·rfl
   ·rw [Bool.eq_false_iff]
    intro h
    have h':=qfw.1 h
    have a1:=h'.b0
    have a2:=h'.b1
    have a3:=h'.rs
    have a4:=h'.sz
    have a5:=h'.up
    simp only at a1 a2 a3 a4 a5
    rcases g1 with g | g | g | g | g
    ·omega
    ·omega
    ·exact g a3
    ·omega
    ·rw [a5] at g;cases g
  clear hrw
  by_cases q1:base < 0
  ·have q1':decide (base < 0)=true:=by simpa using q1
   clear g1 q1
   go_enter Tryz.func128,Tryz.ntmps128
   go_wp2
   go_ret
   exact ⟨qaf HE.out.symm,bel1 w _⟩
  ·have q1':decide (base < 0)=false:=by simpa using q1
   by_cases q2:1000000 < base
   ·have q2':decide (1000000 < base)=true:=by simpa using q2
    clear g1 q1 q2
    go_enter Tryz.func128,Tryz.ntmps128
    go_wp2
    go_ret
    exact ⟨qaf HE.out.symm,bel1 w _⟩
   ·have q2':decide (1000000 < base)=false:=by simpa using q2
    have HQ:Hid (qaw rs≠0∨400 < ats.size∨qch 1000000 base ats.toList=false):=by
     rcases g1 with g | g | g
     ·exact absurd g q1
     ·exact absurd g q2
     ·exact g
    clear g1 q1 q2
    go_enter Tryz.func128,Tryz.ntmps128
    go_wp2_with fail
    refine (HC.out _ (bel1 w _)).mono ?_
    rintro e w1 ⟨rfl,hb1⟩
    obtain ⟨u0,u1,u2⟩:=box3 hb1
    have HB1:=hI (qac (bel1 w _) hb1)
    have hrest:=fun p:ats.size≤400=>HRi.out p w1 HB1.out
    have HR:=hI hrest
    clear hb1 hrest HC
    by_cases q3:qaw rs=0
    ·have q3':(qaw rs != 0)=false:=by simpa using q3
     by_cases q4:400 < ats.size
     ·have q4':decide ((400:Int) < (ats.size:Int))=true:=by simp;omega
      clear q3 q4
      go_wp2
      go_ret
      exact ⟨qaf HE.out.symm,HB1.out⟩
     ·have q4':decide ((400:Int) < (ats.size:Int))=false:=by simp;omega
      have q5:qch 1000000 base ats.toList=false:=by
       rcases HQ.out with g | g | g
       ·exact absurd q3 g
       ·exact absurd g q4
       ·exact g
      have HRR:=hI (HR.out (by omega))
      rw [q5] at HRR
      clear q3 q5 HQ HR
      go_wp2_with fail
      refine HRR.out.mono ?_
      rintro e w2 ⟨rfl,hb2⟩
      go_wp2
      go_ret
      exact ⟨qaf HE.out.symm,qac HB1.out hb2⟩
    ·have q3':(qaw rs != 0)=true:=by simpa using q3
     clear q3 HQ
     go_wp2
     go_ret
     exact ⟨qaf HE.out.symm,HB1.out⟩
 ·obtain ⟨p1,p2,p3,p4,p5⟩:0≤base∧base≤1000000∧qaw rs=0∧ats.size≤400∧qch 1000000 base ats.toList=true:=by
   refine ⟨by omega,by omega,Classical.byContradiction fun h=>g1 (by simp [h]),by omega,?_⟩
   cases hr:qch 1000000 base ats.toList
   ·exact absurd (by simp [hr]) g1
   ·rfl
  have hall:chkB ⟨base,rs,ats⟩=(decide (0 < rs.size→base + 1 < rs[0]!.1) && !(ats.toList.any fun a=>qcf rs a.1)):=by
   have e:(fun a:Int×Int=>qcf rs a.1)=fun a=>inR rs a.1:=funext fun a=>has_in p3 a.1
   rw [e]
   unfold chkB
   simp only [p3,p5,p4]
   simp [p1,p2]
  have HA:=hI hall
  have q1:decide (base < 0)=false:=by simpa using p1
  have q2:decide (1000000 < base)=false:=by simpa using p2
  have q3:(qaw rs != 0)=false:=by simpa using p3
  have q4:decide ((400:Int) < (ats.size:Int))=false:=by simp;omega
  have HRi':=hI (HRi.out p4)
  rw [p5] at HRi'
  have HW:=hI hrw
  have HP4:=hI p4
  have hrs:=(qel p3).1
  have hatN:∀ W,Below w.heap.size w W→0 < rs.size→∃ b off,A1=some ⟨b,off,none⟩∧W.cell? ⟨b,off,none⟩=some (.int .i64 rs[0]!.1):=fun W hb h0=>by
   obtain ⟨b,off,e,_,f⟩:=(HR1.out.below hb).at_ (i:=0) h0
   refine ⟨b,off,e,?_⟩
   have:=f 0 (by omega)
   simpa [encR] using this
  have HN:=hI hatN
  have HHs:Hid (∀ x W,Below w.heap.size w W→Calls Tryz.prog 176 #[.slice A1 rs.size c1,.int .i64 x] W fun e w'=>e=.returned (.bool (qcf rs x))∧Below W.heap.size W w'):=fun x W hb=>r4Has_any A1 c1 rs x _ W ((HR1.out.below hb).mono hb.size)
  have hlo1:0 < rs.size→1≤rs[0]!.1∧rs[0]!.1≤1000000:=fun h0=>by
   have:=(NL.of_set p3).1 rs[0]! (by rw [getElem!_pos rs 0 h0];simp)
   omega
  have HL1:=hI hlo1
  clear g1 p3 p5 hall hrw hatN hlo1 HRi
  go_enter Tryz.func128,Tryz.ntmps128
  go_wp2_with fail
  refine (HC.out _ (bel1 w _)).mono ?_
  rintro e w1 ⟨rfl,hb1⟩
  obtain ⟨u0,u1,u2⟩:=box3 hb1
  have HB1:=hI (qac (bel1 w _) hb1)
  have HRR:=hI (HRi'.out w1 HB1.out)
  have hlt1:w.heap.size < w1.heap.size:=by have:=hb1.size;simp at this;omega
  clear hb1 HC HRi'
  go_wp2_with fail
  refine HRR.out.mono ?_
  rintro e w2 ⟨rfl,hb2⟩
  have v0:=(hb2.cell (p:=⟨w.heap.size,0,none⟩) hlt1).trans u0
  have v1:=(hb2.cell (p:=⟨w.heap.size,1,none⟩) hlt1).trans u1
  have v2:=(hb2.cell (p:=⟨w.heap.size,2,none⟩) hlt1).trans u2
  have hlt2:w.heap.size < w2.heap.size:=Nat.lt_of_lt_of_le hlt1 hb2.size
  have HB2:=hI (qac HB1.out hb2)
  clear hb2 u0 u1 u2 HRR hlt1
  by_cases q5:0 < rs.size
  ·obtain ⟨bq,oq,rfl,hcell⟩:=HN.out w2 HB2.out q5
   have q5':decide ((0:Int) < (rs.size:Int))=true:=by simp;omega
   obtain ⟨l1,l2⟩:=HL1.out q5
   obtain ⟨lo,hlo⟩:∃ lo,rs[0]!.1=lo:=⟨_,rfl⟩
   rw [hlo] at hcell l1 l2
   have HLo:=hI hlo
   clear hlo HN HL1
   by_cases q6:lo≤base + 1
   ·have q6':decide (lo - 1≤base)=true:=by simp;omega
    have HE:Hid (chkE ⟨base,rs,ats⟩=2):=by
     show _=_
     rw [HW.out false]
     ·rfl
     ·rw [HA.out,Bool.and_eq_false_iff]
      left
      rw [decide_eq_false_iff_not]
      intro h
      have:=h q5
      rw [HLo.out] at this
      omega
    clear q6
    go_wp2
    go_quiet (fail)
    go_wp2
    go_ret
    exact ⟨qaf HE.out.symm,qax HB2.out _⟩
   ·have q6':decide (lo - 1≤base)=false:=by simp;omega
    have hone:decide (0 < rs.size→base + 1 < rs[0]!.1)=true:=by
     rw [decide_eq_true_iff]
     intro _
     rw [HLo.out]
     omega
    rw [hone,Bool.true_and] at HA
    clear q6 hone
    go_wp2
    go_quiet (fail)
    obtain ⟨w3,HW3⟩:∃ W,Hid (W=w2.drewN nq):=⟨_,rfl⟩
    have HB3:Hid (Below w.heap.size w w3):=by rw [HW3.out];exact qax HB2.out _
    have HV:Hid (w.heap.size < w3.heap.size∧w3.cell? ⟨w.heap.size,1,none⟩=some (.slice (some ⟨bq,oq,none⟩) rs.size c1)∧w3.cell? ⟨w.heap.size,2,none⟩=some (.slice A2 ats.size c2)):=by rw [HW3.out];exact ⟨hlt2,v1,v2⟩
    clear v0 v1 v2 hlt2
    go_wp2
    go_loopw [3] (fun iv wr=>∃ j:Nat,iv=.int .i64 (j:Int)∧j≤ats.size∧(∀ i,i < j→qcf rs ats[i]!.1=false)∧Below w3.heap.size w3 wr) (fun iv _=>ats.size - (intOf iv).toNat)
    case atStart=>exact ⟨0,rfl,Nat.zero_le _,fun i hi=>absurd hi (by omega),by rw [HW3.out];exact Below.refl _ _⟩
    case round =>
     obtain ⟨j,rfl,hj,hJ,hB⟩:=hrel
     have HJ:=hI hJ
     have HB:=hI hB
     have x1:=(hB.cell (p:=⟨w.heap.size,1,none⟩) HV.out.1).trans HV.out.2.1
     have x2:=(hB.cell (p:=⟨w.heap.size,2,none⟩) HV.out.1).trans HV.out.2.2
     have hl3:w.heap.size < wr.heap.size:=Nat.lt_of_lt_of_le HV.out.1 hB.size
     clear hJ hB
     by_cases hlt:j < ats.size
     ·have jz:(j:Int) < (ats.size:Int):=by omega
      obtain ⟨b,off,rfl,hbl,f⟩:=(HR2.out.below (qac HB3.out HB.out)).at_ hlt
      have e0:=f 0 (by omega)
      have hbw:b < wr.heap.size:=Nat.lt_of_lt_of_le hbl (qac HB3.out HB.out).size
      obtain ⟨x,hx⟩:∃ x,ats[j]!.1=x:=⟨_,rfl⟩
      have HX:=hI hx
      simp only [Nat.add_zero,qbe,List.getElem!_cons_zero,hx] at e0
      clear f hx
      have p1:=fun p:ExtW wr=>p.cell (a:=⟨w.heap.size,1,none⟩) hl3 x1
      have p2:=fun p:ExtW wr=>p.cell (a:=⟨w.heap.size,2,none⟩) hl3 x2
      have p3:=fun p:ExtW wr=>p.cell (a:=⟨b,off + j * 2,none⟩) hbw e0
      have hhx:∀ p:ExtW wr,Calls Tryz.prog 176 #[.slice (some ⟨bq,oq,none⟩) rs.size c1,.int .i64 x] p.to fun e w'=>e=.returned (.bool (qcf rs x))∧Below p.to.heap.size p.to w':=fun p=>HHs.out x p.to (qac HB3.out (qac HB.out p.h))
      obtain ⟨t,ht⟩:∃ t,qcf rs x=t:=⟨_,rfl⟩
      rw [ht] at hhx
      have HT:=hI ht
      have HC:=hI hhx
      clear ht hhx
      cases t
      ·go_wp2_with fail
       refine qae (by kernel_rfl) (by kernel_rfl) ?_
       repeat (first | go_big_quiet_step ((go_at_call 176;exact Calls.ext_of (HC.out _))) | quiet_step ((go_at_call 176;exact Calls.ext_of (HC.out _))))
       refine wpQuiet_nil ?_
       intro w' hw'
       obtain ⟨⟨W,hbW⟩,hw''⟩:=hw'
       have hw3:w'=W:=hw''
       subst hw3
       have HBW:=hI hbW
       clear hbW hw'' p1 p2 p3
       go_wp2
       go_roundw
       case rel=>exact ⟨j + 1,by go_num,by omega,(fun i hi=>by
        rcases Nat.lt_or_ge i j with h' | h'
        ·exact HJ.out i h'
        ·obtain rfl:i=j:=by omega
         rw [HX.out];exact HT.out),qac HB.out HBW.out⟩
       case measure=>simp [intOf];omega
      ·have HE:Hid (chkE ⟨base,rs,ats⟩=2):=by
        show _=_
        rw [HW.out false]
        ·rfl
        ·rw [HA.out,Bool.not_eq_false',List.any_eq_true]
         exact ⟨ats[j]!,by rw [getElem!_pos ats j hlt];simp,by rw [HX.out];exact HT.out⟩
       go_wp2_with fail
       refine qae (by kernel_rfl) (by kernel_rfl) ?_
       repeat (first | go_big_quiet_step ((go_at_call 176;exact Calls.ext_of (HC.out _))) | quiet_step ((go_at_call 176;exact Calls.ext_of (HC.out _))))
       refine wpQuiet_nil ?_
       intro w' hw'
       obtain ⟨⟨W,hbW⟩,hw''⟩:=hw'
       have hw3:w'=W:=hw''
       subst hw3
       have HBW:=hI hbW
       clear hbW hw'' p1 p2 p3
       go_wp2
       go_ret
       exact ⟨qaf HE.out.symm,qac HB3.out (qac HB.out HBW.out)⟩
     ·have hlt':decide ((j:Int) < (ats.size:Int))=false:=decide_eq_false (by omega)
      have HE:Hid (chkE ⟨base,rs,ats⟩=0):=by
       show _=_
       rw [HW.out true]
       ·rfl
       ·rw [HA.out,Bool.not_eq_true',List.any_eq_false]
        intro x hx
        obtain ⟨i,hi,rfl⟩:=List.mem_iff_getElem.1 hx
        have:=HJ.out i (by simp at hi;omega)
        rw [getElem!_pos ats i (by simpa using hi)] at this
        simpa using this
      go_wp2
      go_ret
      exact ⟨qaf HE.out.symm,qac HB3.out HB.out⟩
  ·have q5':decide ((0:Int) < (rs.size:Int))=false:=decide_eq_false (by omega)
   have q5n:decide (0 < rs.size)=false:=decide_eq_false q5
   have hone:decide (0 < rs.size→base + 1 < rs[0]!.1)=true:=by
    rw [decide_eq_true_iff]
    intro h
    exact absurd h q5
   rw [hone,Bool.true_and] at HA
   clear q5 hone HN HL1
   go_wp2
   go_quiet (fail)
   obtain ⟨w3,HW3⟩:∃ W,Hid (W=w2.drewN nq):=⟨_,rfl⟩
   have HB3:Hid (Below w.heap.size w w3):=by rw [HW3.out];exact qax HB2.out _
   have HV:Hid (w.heap.size < w3.heap.size∧w3.cell? ⟨w.heap.size,1,none⟩=some (.slice A1 rs.size c1)∧w3.cell? ⟨w.heap.size,2,none⟩=some (.slice A2 ats.size c2)):=by rw [HW3.out];exact ⟨hlt2,v1,v2⟩
   clear v0 v1 v2 hlt2
   go_wp2
   go_loopw [3] (fun iv wr=>∃ j:Nat,iv=.int .i64 (j:Int)∧j≤ats.size∧(∀ i,i < j→qcf rs ats[i]!.1=false)∧Below w3.heap.size w3 wr) (fun iv _=>ats.size - (intOf iv).toNat)
   case atStart=>exact ⟨0,rfl,Nat.zero_le _,fun i hi=>absurd hi (by omega),by rw [HW3.out];exact Below.refl _ _⟩
   case round =>
    obtain ⟨j,rfl,hj,hJ,hB⟩:=hrel
    have HJ:=hI hJ
    have HB:=hI hB
    have x1:=(hB.cell (p:=⟨w.heap.size,1,none⟩) HV.out.1).trans HV.out.2.1
    have x2:=(hB.cell (p:=⟨w.heap.size,2,none⟩) HV.out.1).trans HV.out.2.2
    have hl3:w.heap.size < wr.heap.size:=Nat.lt_of_lt_of_le HV.out.1 hB.size
    clear hJ hB
    by_cases hlt:j < ats.size
    ·have jz:(j:Int) < (ats.size:Int):=by omega
     obtain ⟨b,off,rfl,hbl,f⟩:=(HR2.out.below (qac HB3.out HB.out)).at_ hlt
     have e0:=f 0 (by omega)
     have hbw:b < wr.heap.size:=Nat.lt_of_lt_of_le hbl (qac HB3.out HB.out).size
     obtain ⟨x,hx⟩:∃ x,ats[j]!.1=x:=⟨_,rfl⟩
     have HX:=hI hx
     simp only [Nat.add_zero,qbe,List.getElem!_cons_zero,hx] at e0
     clear f hx
     have p1:=fun p:ExtW wr=>p.cell (a:=⟨w.heap.size,1,none⟩) hl3 x1
     have p2:=fun p:ExtW wr=>p.cell (a:=⟨w.heap.size,2,none⟩) hl3 x2
     have p3:=fun p:ExtW wr=>p.cell (a:=⟨b,off + j * 2,none⟩) hbw e0
     have hhx:∀ p:ExtW wr,Calls Tryz.prog 176 #[.slice A1 rs.size c1,.int .i64 x] p.to fun e w'=>e=.returned (.bool (qcf rs x))∧Below p.to.heap.size p.to w':=fun p=>HHs.out x p.to (qac HB3.out (qac HB.out p.h))
     obtain ⟨t,ht⟩:∃ t,qcf rs x=t:=⟨_,rfl⟩
     rw [ht] at hhx
     have HT:=hI ht
     have HC:=hI hhx
     clear ht hhx
     cases t
     ·go_wp2_with fail
      refine qae (by kernel_rfl) (by kernel_rfl) ?_
      repeat (first | go_big_quiet_step ((go_at_call 176;exact Calls.ext_of (HC.out _))) | quiet_step ((go_at_call 176;exact Calls.ext_of (HC.out _))))
      refine wpQuiet_nil ?_
      intro w' hw'
      obtain ⟨⟨W,hbW⟩,hw''⟩:=hw'
      have hw3:w'=W:=hw''
      subst hw3
      have HBW:=hI hbW
      clear hbW hw'' p1 p2 p3
      go_wp2
      go_roundw
      case rel=>exact ⟨j + 1,by go_num,by omega,(fun i hi=>by
       rcases Nat.lt_or_ge i j with h' | h'
       ·exact HJ.out i h'
       ·obtain rfl:i=j:=by omega
        rw [HX.out];exact HT.out),qac HB.out HBW.out⟩
      case measure=>simp [intOf];omega
     ·have HE:Hid (chkE ⟨base,rs,ats⟩=2):=by
       show _=_
       rw [HW.out false]
       ·rfl
       ·rw [HA.out,Bool.not_eq_false',List.any_eq_true]
        exact ⟨ats[j]!,by rw [getElem!_pos ats j hlt];simp,by rw [HX.out];exact HT.out⟩
      go_wp2_with fail
      refine qae (by kernel_rfl) (by kernel_rfl) ?_
      repeat (first | go_big_quiet_step ((go_at_call 176;exact Calls.ext_of (HC.out _))) | quiet_step ((go_at_call 176;exact Calls.ext_of (HC.out _))))
      refine wpQuiet_nil ?_
      intro w' hw'
      obtain ⟨⟨W,hbW⟩,hw''⟩:=hw'
      have hw3:w'=W:=hw''
      subst hw3
      have HBW:=hI hbW
      clear hbW hw'' p1 p2 p3
      go_wp2
      go_ret
      exact ⟨qaf HE.out.symm,qac HB3.out (qac HB.out HBW.out)⟩
    ·have hlt':decide ((j:Int) < (ats.size:Int))=false:=decide_eq_false (by omega)
     have HE:Hid (chkE ⟨base,rs,ats⟩=0):=by
      show _=_
      rw [HW.out true]
      ·rfl
      ·rw [HA.out,Bool.not_eq_true',List.any_eq_false]
       intro x hx
       obtain ⟨i,hi,rfl⟩:=List.mem_iff_getElem.1 hx
       have:=HJ.out i (by simp at hi;omega)
       rw [getElem!_pos ats i (by simpa using hi)] at this
       simpa using this
     go_wp2
     go_ret
     exact ⟨qaf HE.out.symm,qac HB3.out HB.out⟩
theorem qyf (v:Value) (k:KN) (w:World) (h:KnV w v k):Calls Tryz.prog 128 #[v] w fun e w'=>e=.returned (.int .i64 (chkE k))∧Below w.heap.size w w':=by
 obtain ⟨A1,c1,A2,c2,rfl,h1,h2,_,_⟩:=h
 exact qye k.base k.rs k.ats A1 c1 A2 c2 w h1 h2
end Go.Proofs.YtnmojicfmcbgmaaGreatDoor
namespace Go.Proofs.YtnmojicfmcbgmaaGreatDoor
open Go.RowKit Go.Sort Go.Lib
structure InsU (d:Array (Int×Int)) (m:Nat) (o:Array (Int×Int)):Prop where
 up:o.toList.Pairwise fun x y=>x.1≤y.1
 mem:∀ x,x ∈ o.toList↔x ∈ d.toList.take m∧x.1≤x.2
 sz:o.size≤m
theorem InsU.nil (d:Array (Int×Int)):InsU d 0 #[]:=⟨by simp,by simp,Nat.le_refl _⟩
theorem qlt {d:Array (Int×Int)} {m:Nat} (hm:m < d.size):d.toList.take (m + 1)=d.toList.take m ++ [d[m]!]:=by
 rw [List.take_add_one]
 simp [hm]
theorem InsU.skip {d o:Array (Int×Int)} {m:Nat} (h:InsU d m o) (hm:m < d.size) (hx:d[m]!.2 < d[m]!.1):InsU d (m + 1) o:=by
 refine ⟨h.up,fun x=>?_,by have:=h.sz;omega⟩
 rw [h.mem,qlt hm,List.mem_append,List.mem_singleton]
 constructor
 ·rintro ⟨h1,h2⟩
  exact ⟨Or.inl h1,h2⟩
 ·rintro ⟨h1 | rfl,h2⟩
  ·exact ⟨h1,h2⟩
  ·omega
theorem InsU.put {d o:Array (Int×Int)} {m k:Nat} (h:InsU d m o) (hm:m < d.size) (hx:d[m]!.1≤d[m]!.2) (hk:k≤o.size) (h1:∀ j,j < k→o[j]!.1≤d[m]!.1) (h2:k < o.size→d[m]!.1 < o[k]!.1) :
 InsU d (m + 1) (#[] ++ (o.toList.take k).toArray ++ #[d[m]!] ++ (o.toList.drop k).toArray):=by
 have e:(#[] ++ (o.toList.take k).toArray ++ #[d[m]!] ++ (o.toList.drop k).toArray).toList=o.toList.take k ++ d[m]! :: o.toList.drop k:=by simp
 refine ⟨?_,fun x=>?_,?_⟩
 ·rw [e]
  have hp:=h.up
  rw [←List.take_append_drop k o.toList] at hp
  obtain ⟨p1,p2,p3⟩:=List.pairwise_append.1 hp
  have t1:∀ y ∈ o.toList.take k,y.1≤d[m]!.1:=fun y hy=>by
   obtain ⟨j,hj,rfl⟩:=List.mem_take_iff_getElem.1 hy
   have hj':j < o.size:=by simp at hj;omega
   have:=h1 j (by simp at hj;omega)
   rw [getElem!_pos o j hj'] at this
   simpa using this
  have t2:∀ y ∈ o.toList.drop k,d[m]!.1≤y.1:=fun y hy=>by
   rcases Nat.lt_or_ge k o.size with hlt | hge
   ·have hk':k < o.toList.length:=by simpa using hlt
    rw [List.drop_eq_getElem_cons hk'] at hy p2
    have hk2:=h2 hlt
    rw [getElem!_pos o k (by omega)] at hk2
    rcases List.mem_cons.1 hy with rfl | hy
    ·exact Int.le_of_lt (by simpa using hk2)
    ·have a1:=(List.pairwise_cons.1 p2).1 y hy
     have a2:d[m]!.1 < (o.toList[k]).1:=by simpa using hk2
     omega
   ·rw [List.drop_of_length_le (by simpa using hge)] at hy
    cases hy
  refine List.pairwise_append.2 ⟨p1,List.pairwise_cons.2 ⟨t2,p2⟩,fun y hy z hz=>?_⟩
  rcases List.mem_cons.1 hz with rfl | hz
  ·exact t1 y hy
  ·exact p3 y hy z hz
 ·rw [e,qlt hm,List.mem_append,List.mem_cons,List.mem_append,List.mem_singleton]
  have hs:x ∈ o.toList↔x ∈ o.toList.take k∨x ∈ o.toList.drop k:=by rw [←List.mem_append,List.take_append_drop]
  have hm':=h.mem x
  rw [hs] at hm'
  constructor
  ·rintro (a | rfl | a)
   ·exact ⟨Or.inl (hm'.1 (Or.inl a)).1,(hm'.1 (Or.inl a)).2⟩
   ·exact ⟨Or.inr rfl,hx⟩
   ·exact ⟨Or.inl (hm'.1 (Or.inr a)).1,(hm'.1 (Or.inr a)).2⟩
  ·rintro ⟨a | rfl,b⟩
   ·rcases hm'.2 ⟨a,b⟩ with c | c
    ·exact Or.inl c
    ·exact Or.inr (Or.inr c)
   ·exact Or.inr (Or.inl rfl)
 ·have:=h.sz
  simp
  omega
theorem InsU.fin {d o:Array (Int×Int)} (h:InsU d d.size o) (hv:∀ x ∈ d.toList,x.1≤x.2→1≤x.1∧x.2≤1000000):IsN (inR d) (formF o.toList)∧(formF o.toList).size≤d.size:=by
 have hm:∀ x,x ∈ o.toList↔x ∈ d.toList∧x.1≤x.2:=fun x=>by
  have:=h.mem x
  rwa [List.take_of_length_le (by simp)] at this
 have:=qvx o.toList #[] ⟨by simp,by simp⟩ (fun x hx=>by
  obtain ⟨h1,h2⟩:=(hm x).1 hx
  have:=hv x h1 h2
  omega) h.up (by simp)
 refine ⟨⟨this.1,fun n=>?_⟩,?_⟩
 ·show inR (List.foldl addF #[] o.toList) n=_
  rw [this.2 n]
  have e0:inR #[] n=false:=rfl
  rw [e0,Bool.false_or,Bool.eq_iff_iff,qtd,qme]
  constructor
  ·rintro ⟨x,hx,h1⟩
   exact ⟨x,((hm x).1 hx).1,h1⟩
  ·rintro ⟨x,hx,h1,h2⟩
   exact ⟨x,(hm x).2 ⟨hx,by omega⟩,h1,h2⟩
 ·have h1:=qnn o.toList #[]
  have h2:=h.sz
  unfold formF
  simp at h1 ⊢
  omega
end Go.Proofs.YtnmojicfmcbgmaaGreatDoor
